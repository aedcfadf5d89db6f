/- Several texts of this session in one: Fx1. Conditions: as each theorem says. -/
import Derived.Test.YtopkfhnnapncgaaZDualMatrix0
set_option maxHeartbeats 8000000
set_option maxRecDepth 100000
section
namespace Go.Proofs.Ytopkfhnnapncgaa.F
open Go.RowKit Go.Proofs.YtopkfhnnapncgaaW.PrintWords Go.Proofs.YtopkfhnnapncgaaW.PrintLast Go.Proofs.YtopkfhnnapncgaaW.PrintMore
attribute [local go_sem] jG jE jY j8 jl jk jK jM   -- for this text's walks alone
set_option linter.unusedVariables false
set_option linter.unusedSimpArgs false

def js.f (l0 : List Int) (a1 : Int) : Option (Int) := if (wrap64 (a1 - (l0.length : Int))) < 0 then (some (-1)) else (some (wrap64 (a1 - (l0.length : Int))))
theorem js.calls (A0 : Option Addr) (c0 : Nat) (l0 : List Int) (a1 : Int) (r : Int) (w : World) (hr0 : Kd.C (Kd.int .i64) w A0 l0.length l0) (hc0 : l0.length ≤ c0) (h : js.f l0 a1 = some r) :
  Calls Try.prog 36 #[.slice A0 l0.length c0, .int .i64 a1] w fun e w' => e = .returned (.int .i64 r) ∧ zw w w' := by
 have HR0 := Aside0.mk hr0
 have HC0 := Aside0.mk hc0
 clear hr0 hc0
 have H : (if (wrap64 (a1 - (l0.length : Int))) < 0 then (some (-1)) else (some (wrap64 (a1 - (l0.length : Int))))) = some r := h
 clear h
 by_cases c3 : (wrap64 (a1 - (l0.length : Int))) < 0
 ·rw [if_pos c3] at H
  have c3b0 : decide ((wrap64 (a1 - (l0.length : Int))) < 0) = true := decide_eq_true c3
  clear c3
  obtain rfl := Option.some.inj H
  go_enter Try.func36, Try.ntmps36
  go_wp2
  go_ret
  exact ⟨sqD, by repeat (first | exact zw.refl _ | apply zw.step)⟩
 ·rw [if_neg c3] at H
  have c3b0 : decide ((wrap64 (a1 - (l0.length : Int))) < 0) = false := decide_eq_false c3
  clear c3
  obtain rfl := Option.some.inj H
  go_enter Try.func36, Try.ntmps36
  go_wp2
  go_ret
  exact ⟨sqD, by repeat (first | exact zw.refl _ | apply zw.step)⟩

def qD.f (a0_0 : Int) (a0_1 : Int) (a0_2 : Int) (l0_3 : List Int) (a1 : Int) : Option (Int) := (js.f l0_3 a1).bind fun t102 => (if t102 < 0 then (some (-1)) else (some t102))
theorem qD.calls (a0_0 : Int) (a0_1 : Int) (a0_2 : Int) (A0_3 : Option Addr) (c0_3 : Nat) (l0_3 : List Int) (a1 : Int) (r : Int) (w : World) (hr0_3 : Kd.C (Kd.int .i64) w A0_3 l0_3.length l0_3) (hc0_3 : l0_3.length ≤ c0_3) (h : qD.f a0_0 a0_1 a0_2 l0_3 a1 = some r) :
  Calls Try.prog 11 #[.agg #[.int .i64 a0_0, .int .i64 a0_1, .int .i64 a0_2, .slice A0_3 l0_3.length c0_3], .int .i64 a1] w fun e w' => e = .returned (.int .i64 r) ∧ Below w.heap.size w w' := by
 have hu24 := Try.underlying24
 have HR0_3 := Aside0.mk hr0_3
 have HC0_3 := Aside0.mk hc0_3
 clear hr0_3 hc0_3
 have HB := Aside0.mk (Below.refl w.heap.size w)
 have H : ((js.f l0_3 a1).bind fun t102 => (if t102 < 0 then (some (-1)) else (some t102))) = some r := h
 clear h
 replace H := Option.bind_eq_some_iff.mp H
 obtain ⟨t102, A30, H⟩ := H
 replace H : (if t102 < 0 then (some (-1)) else (some t102)) = some r := H
 have A3 := Aside0.mk A30
 clear A30
 by_cases c4 : t102 < 0
 ·rw [if_pos c4] at H
  have c4b0 : decide (t102 < 0) = true := decide_eq_true c4
  clear c4
  obtain rfl := Option.some.inj H
  go_enter Try.func11, Try.ntmps11
  go_wp2_with (first | ((with_reducible refine zC (N := 2) rfl ?_); refine zD ?hg (N := 2) ?hd (cs := #[.int .i64 a0_0, .int .i64 a0_1, .int .i64 a0_2, .slice A0_3 l0_3.length c0_3]) (t := 24) ?hr ?_; (case hd => rfl); (case hg => rfl); (case hr => exact sqG); intro gb101 hg w5 hbox hb; have n0_ := Aside0.mk (zg sqB hb); have n1_ := Aside0.mk (hbox); have n2_ := Aside0.mk ((sqS hg : w.heap.size ≤ gb101)); have n3_ := Aside0.mk ((sqS hg : w.heap.size ≤ gb101)); clear HB; have HB := n0_; have BK101 := n1_; have GW101 := n2_; have GE101 := n3_; clear n0_ n1_ n2_ n3_; clear hb hbox hg; have hcz6_0 : w5.cell? ⟨gb101, 0, none⟩ = some (.int .i64 a0_0) := (zb BK101.out 0).trans rfl; have hcz6_1 : w5.cell? ⟨gb101, 1, none⟩ = some (.int .i64 a0_1) := (zb BK101.out 1).trans rfl; have hcz6_2 : w5.cell? ⟨gb101, 2, none⟩ = some (.int .i64 a0_2) := (zb BK101.out 2).trans rfl; have hcz6_3 : w5.cell? ⟨gb101, 3, none⟩ = some (.slice A0_3 l0_3.length c0_3) := (zb BK101.out 3).trans rfl; have hfz6_0 := za BK101.out 0; have hfz6_1 := za BK101.out 1; have hfz6_2 := za BK101.out 2; have hfz6_3 := za BK101.out 3) | ((with_reducible refine zp (f := 36) rfl ?_); refine zP (some 8) rfl rfl Try.func36 (by kernel_rfl) rfl #[.slice A0_3 l0_3.length c0_3, .int .i64 a1] rfl sqM ?_; (with_reducible refine (js.calls _ _ l0_3 a1 t102 _ ?side1 ?side2 A3.out).mono ?_); (case side1 => exact sqC (Kd.z1 HR0_3.out HB.out)); (case side2 => exact HC0_3.out); rintro e w' ⟨rfl, ⟨nd, rfl⟩⟩; refine ⟨_, rfl, ?_⟩))
  go_ret
  exact ⟨sqE, sqB⟩
 ·rw [if_neg c4] at H
  have c4b0 : decide (t102 < 0) = false := decide_eq_false c4
  clear c4
  obtain rfl := Option.some.inj H
  go_enter Try.func11, Try.ntmps11
  go_wp2_with (first | ((with_reducible refine zC (N := 2) rfl ?_); refine zD ?hg (N := 2) ?hd (cs := #[.int .i64 a0_0, .int .i64 a0_1, .int .i64 a0_2, .slice A0_3 l0_3.length c0_3]) (t := 24) ?hr ?_; (case hd => rfl); (case hg => rfl); (case hr => exact sqG); intro gb101 hg w7 hbox hb; have n0_ := Aside0.mk (zg sqB hb); have n1_ := Aside0.mk (hbox); have n2_ := Aside0.mk ((sqS hg : w.heap.size ≤ gb101)); have n3_ := Aside0.mk ((sqS hg : w.heap.size ≤ gb101)); clear HB; have HB := n0_; have BK101 := n1_; have GW101 := n2_; have GE101 := n3_; clear n0_ n1_ n2_ n3_; clear hb hbox hg; have hcz8_0 : w7.cell? ⟨gb101, 0, none⟩ = some (.int .i64 a0_0) := (zb BK101.out 0).trans rfl; have hcz8_1 : w7.cell? ⟨gb101, 1, none⟩ = some (.int .i64 a0_1) := (zb BK101.out 1).trans rfl; have hcz8_2 : w7.cell? ⟨gb101, 2, none⟩ = some (.int .i64 a0_2) := (zb BK101.out 2).trans rfl; have hcz8_3 : w7.cell? ⟨gb101, 3, none⟩ = some (.slice A0_3 l0_3.length c0_3) := (zb BK101.out 3).trans rfl; have hfz8_0 := za BK101.out 0; have hfz8_1 := za BK101.out 1; have hfz8_2 := za BK101.out 2; have hfz8_3 := za BK101.out 3) | ((with_reducible refine zp (f := 36) rfl ?_); refine zP (some 8) rfl rfl Try.func36 (by kernel_rfl) rfl #[.slice A0_3 l0_3.length c0_3, .int .i64 a1] rfl sqM ?_; (with_reducible refine (js.calls _ _ l0_3 a1 t102 _ ?side1 ?side2 A3.out).mono ?_); (case side1 => exact sqC (Kd.z1 HR0_3.out HB.out)); (case side2 => exact HC0_3.out); rintro e w' ⟨rfl, ⟨nd, rfl⟩⟩; refine ⟨_, rfl, ?_⟩))
  go_ret
  exact ⟨sqE, sqB⟩

def ql.l0 : Nat → List Int → List Int → Int → Option (List Int)
 | 0, _, _, _ => none
 | k + 1, x0, x3, x4 => if x4 < (x0.length : Int) then (if 0 ≤ x4 then (if x4 < (x3.length : Int) then (ql.l0 k x0 (x3.set (x4 : Int).toNat (rd x0 x4)) (wrap64 (x4 + 1))) else (none)) else (none)) else (some x3)
def ql.f (k : Nat) (l0 : List Int) : Option (List Int) := if 0 ≤ (l0.length : Int) then (if ((l0.length : Int) : Int).toNat ≤ 35184372088832 then (ql.l0 k l0 (List.replicate ((l0.length : Int) : Int).toNat 0) 0) else (none)) else (none)
theorem ql.calls (k : Nat) (A0 : Option Addr) (c0 : Nat) (l0 : List Int) (r : List Int) (w : World) (hr0 : Kd.C (Kd.int .i64) w A0 l0.length l0) (hc0 : l0.length ≤ c0) (h : ql.f k l0 = some r) :
  Calls Try.prog 38 #[.slice A0 l0.length c0] w fun e w' => ∃ v0_ : Value, e = .returned (v0_) ∧ Kd.R (Kd.int .i64) 3 w' w.heap.size (fun _ => True) v0_ r ∧ Below w.heap.size w w' := by
 have HR0 := Aside0.mk hr0
 have HC0 := Aside0.mk hc0
 clear hr0 hc0
 have HB := Aside0.mk (Below.refl w.heap.size w)
 have H : (if 0 ≤ (l0.length : Int) then (if ((l0.length : Int) : Int).toNat ≤ 35184372088832 then (ql.l0 k l0 (List.replicate ((l0.length : Int) : Int).toNat 0) 0) else (none)) else (none)) = some r := h
 clear h
 by_cases c2 : 0 ≤ (l0.length : Int)
 ·rw [if_pos c2] at H
  have c2b0 := eq_true c2
  have c2b1 : decide (0 ≤ (l0.length : Int)) = true := decide_eq_true c2
  clear c2
  by_cases c3 : ((l0.length : Int) : Int).toNat ≤ 35184372088832
  ·rw [if_pos c3] at H
   have c3b0 := eq_true c3
   have c3b1 : decide (((l0.length : Int) : Int).toNat ≤ 35184372088832) = true := decide_eq_true c3
   clear c3
   obtain ⟨y103, hy103⟩ : ∃ y_ : List Int, y_ = (List.replicate ((l0.length : Int) : Int).toNat 0) := ⟨_, rfl⟩
   replace H : (ql.l0 k l0 y103 0) = some r := by first | (rw [hy103]; with_reducible exact H) | (have H2_ := (Option.bind_some _ _).symm.trans H; rw [hy103]; with_reducible exact H2_) | (have H2_ := (Option.bind_some _ _).symm.trans H; with_reducible exact H2_) | with_reducible exact H | (rw [hy103]; exact H) | exact H
   have Ny103 := Aside0.mk hy103
   clear hy103
   have H' := Aside0.mk H
   clear H
   go_enter Try.func38, Try.ntmps38
   go_wp2_with (first | ((with_reducible refine zC (N := 7) rfl ?_); refine Kd.Jj (Kd.int .i64) _ 3 rfl (N := 7) rfl 22 _ _ rfl (l0.length : Int) rfl rfl Try.underlying22 (.int .i64 0) 8 vt rfl (by decide) (by omega) 0 (ok := fun _ => True) (okp := fun _ => True) rfl (fun _ hk => hk) trivial (of_decide_eq_true sqA) (Nat.le_trans (Nat.mul_le_mul_right _ (of_decide_eq_true sqA : (l0.length : Int).toNat ≤ 35184372088832)) (by omega)) (Below.refl _ _) (Nat.le_refl _) ?_; intro v104 w4 ho5 hb hg_ hnew_; clear hg_ hnew_; (first | rw [← Ny103.out] at ho5 | (simp only [Int.reduceToNat] at ho5; rw [← Ny103.out] at ho5)); have n0_ := Aside0.mk (Kd.qo ho5 (zJ sqB)); have n1_ := Aside0.mk (zg sqB hb); clear HB; have HO105 := n0_; have HB := n1_; clear n0_ n1_; clear hb ho5))
   go_loopg [4] k (fun kq v4 w' => ∃ (x3_1 : List Int) (x4_1 : Int), v4 = .int .i64 x4_1 ∧ Aside0 (ql.l0 kq l0 x3_1 x4_1 = some r) ∧ Aside0 (kq ≤ k) ∧ Aside0 (Kd.R (Kd.int .i64) 3 w' w.heap.size (fun _ => True) v104 x3_1) ∧ Aside0 (Below w.heap.size w w'))
   case atStart => exact ⟨(y103), (0), (sqD), H', ⟨Nat.le_refl _⟩, ⟨sqR HO105.out⟩, ⟨sqB⟩⟩
   case round =>
    clear H'
    try clear c2
    try clear c2b0
    try clear c2b1
    try clear p2
    try clear c3
    try clear c3b0
    try clear c3b1
    obtain ⟨x3_1, x4_1, rfl, HA, HK1, HO_3, HB⟩ := hrel
    cases gk with
    | zero => exact absurd HA.out (by simp [ql.l0])
    | succ k1 =>
     have H := HA.out
     clear HA
     simp only [ql.l0] at H
     by_cases c6 : x4_1 < (l0.length : Int)
     ·rw [if_pos c6] at H
      have c6b0 : decide (x4_1 < (l0.length : Int)) = true := decide_eq_true c6
      clear c6
      by_cases c7 : 0 ≤ x4_1
      ·rw [if_pos c7] at H
       have c7b0 : decide (0 ≤ x4_1) = true := decide_eq_true c7
       clear c7
       by_cases c8 : x4_1 < (x3_1.length : Int)
       ·rw [if_pos c8] at H
        have c8b0 : decide (x4_1 < (x3_1.length : Int)) = true := decide_eq_true c8
        clear c8
        obtain ⟨y107, hy107⟩ : ∃ y_ : List Int, y_ = (x3_1.set (x4_1 : Int).toNat (rd l0 x4_1)) := ⟨_, rfl⟩
        replace H : (ql.l0 k1 l0 y107 (wrap64 (x4_1 + 1))) = some r := by first | (rw [hy107]; with_reducible exact H) | (have H2_ := (Option.bind_some _ _).symm.trans H; rw [hy107]; with_reducible exact H2_) | (have H2_ := (Option.bind_some _ _).symm.trans H; with_reducible exact H2_) | with_reducible exact H | (rw [hy107]; exact H) | exact H
        have Ny107 := Aside0.mk hy107
        clear hy107
        have H' := Aside0.mk H
        clear H
        have p106 : 0 ≤ (x4_1 : Int) := of_decide_eq_true sqA
        have q106 : x4_1 < (l0.length : Int) := of_decide_eq_true sqA
        obtain ⟨ad106, e106, hx106_0⟩ := Kd.qh HR0.out x4_1 p106 q106
        cases e106
        replace hx106_0 := (HB.out.cell (World.block_lt_of_cell? w _ hx106_0)).trans hx106_0
        replace p106 := eq_true p106
        replace q106 := eq_true q106
        have p9 : 0 ≤ (x4_1 : Int) := of_decide_eq_true sqA
        have q9 : (x4_1 : Int) < ((x3_1.length : Int) : Int) := of_decide_eq_true sqA
        obtain ⟨go9, co9, eo9, gb9, gl9, cl9, HG9⟩ := Kd.vq HO_3.out (by omega)
        (first | cases eo9 | (injection eo9 with ea_ en_ ec_; (first | subst ea_ | (injection ea_ with ea_; subst ea_)); subst ec_; clear en_))
        (try simp only [add_plain] at *)
        have GB9 := Aside0.mk gb9
        have GG9 := Aside0.mk HG9
        clear gb9 gl9 HG9
        obtain ⟨hx9_0, hf9_0⟩ := Kd.qX 0 HO_3.out (x4_1 : Int) p9 q9
        replace p9 := eq_true p9
        replace q9 := eq_true q9
        have HP10 := Kd.ye HO_3.out (x4_1 : Int) (rd l0 x4_1)
        go_wp2_with (first | ((with_reducible refine jH (t := 3) (p := 20) rfl ?_); refine jt (t := 3) (p := 20) (v := ?vo_w11) (w1 := (wr.setCell ⟨go9, (x4_1 : Int).toNat, none⟩ (.int .i64 (rd l0 x4_1)))) ?hg ?ho ?hn ?hr ?_; (case ho => rfl); (case hg => rfl); (case hn => rfl); (case hr => exact sqG); intro w11 hw; have hg : wr.grownBy w11 (some go9) := (by rw [hw]; exact HP10.2); have hp_ : Kd.R (Kd.int .i64) 3 w11 w.heap.size (fun _ => True) (.slice (some ⟨go9, 0, none⟩) x3_1.length co9) y107 := (by rw [hw, Ny107.out]; exact HP10.1); clear HP10; have n0_ := Aside0.mk (hp_); have n1_ := Aside0.mk ((by rw [hw]; exact zO (HB.out) GB9.out : Below w.heap.size w w11)); clear HO_3; clear HB; have HO_3 := n0_; have HB := n1_; clear n0_ n1_; clear hg hw hp_))
        go_roundg k1
        case measure => have := HK1.out; omega
        case rel => exact ⟨(y107), (wrap64 (x4_1 + 1)), (sqD), H', ⟨by have := HK1.out; omega⟩, ⟨sqR HO_3.out⟩, ⟨sqB⟩⟩
       ·rw [if_neg c8] at H
        exact absurd H (by simp)
      ·rw [if_neg c7] at H
       exact absurd H (by simp)
     ·rw [if_neg c6] at H
      have c6b0 : decide (x4_1 < (l0.length : Int)) = false := decide_eq_false c6
      clear c6
      obtain rfl := Option.some.inj H
      go_wp2
      go_ret
      exact ⟨_, sqE, sqR HO_3.out, sqB⟩
  ·rw [if_neg c3] at H
   exact absurd H (by simp)
 ·rw [if_neg c2] at H
  exact absurd H (by simp)

def zE.f (k : Nat) (a0_0 : Int) (a0_1 : Int) (a0_2 : Int) (l0_3 : List Int) : Option (Int × Int × Int × List Int) := (ql.f k l0_3).bind fun t111 => (some (a0_0, a0_1, a0_2, t111))
theorem zE.calls (k : Nat) (a0_0 : Int) (a0_1 : Int) (a0_2 : Int) (A0_3 : Option Addr) (c0_3 : Nat) (l0_3 : List Int) (r1 : Int) (r2 : Int) (r3 : Int) (r4 : List Int) (w : World) (hr0_3 : Kd.C (Kd.int .i64) w A0_3 l0_3.length l0_3) (hc0_3 : l0_3.length ≤ c0_3) (h : zE.f k a0_0 a0_1 a0_2 l0_3 = some (r1, r2, r3, r4)) :
  Calls Try.prog 13 #[.agg #[.int .i64 a0_0, .int .i64 a0_1, .int .i64 a0_2, .slice A0_3 l0_3.length c0_3]] w fun e w' => ∃ v3_ : Value, e = .returned (.agg #[.int .i64 r1, .int .i64 r2, .int .i64 r3, v3_]) ∧ Kd.R (Kd.int .i64) 3 w' w.heap.size (fun _ => True) v3_ r4 ∧ Below w.heap.size w w' := by
 have hu24 := Try.underlying24
 have hu27 := Try.underlying27
 have HR0_3 := Aside0.mk hr0_3
 have HC0_3 := Aside0.mk hc0_3
 clear hr0_3 hc0_3
 have HB := Aside0.mk (Below.refl w.heap.size w)
 have H : ((ql.f k l0_3).bind fun t111 => (some (a0_0, a0_1, a0_2, t111))) = some (r1, r2, r3, r4) := h
 clear h
 replace H := Option.bind_eq_some_iff.mp H
 obtain ⟨t111, A20, H⟩ := H
 replace H : (some (a0_0, a0_1, a0_2, t111)) = some (r1, r2, r3, r4) := H
 have A2 := Aside0.mk A20
 clear A20
 simp only [Option.some.injEq, Prod.mk.injEq] at H
 obtain ⟨rfl, rfl, rfl, rfl⟩ := H
 go_enter Try.func13, Try.ntmps13
 go_wp2_with (first | ((with_reducible refine zC (N := 1) rfl ?_); refine zD ?hg (N := 1) ?hd (cs := #[.int .i64 a0_0, .int .i64 a0_1, .int .i64 a0_2, .slice A0_3 l0_3.length c0_3]) (t := 24) ?hr ?_; (case hd => rfl); (case hg => rfl); (case hr => exact sqG); intro gb108 hg w3 hbox hb; have n0_ := Aside0.mk (zg sqB hb); have n1_ := Aside0.mk (hbox); have n2_ := Aside0.mk ((sqS hg : w.heap.size ≤ gb108)); have n3_ := Aside0.mk ((sqS hg : w.heap.size ≤ gb108)); clear HB; have HB := n0_; have BK108 := n1_; have GW108 := n2_; have GE108 := n3_; clear n0_ n1_ n2_ n3_; clear hb hbox hg) | ((with_reducible refine zC (N := 2) rfl ?_); refine zD ?hg (N := 2) ?hd (cs := #[.int .i64 0, .int .i64 0, .int .i64 0, .slice none 0 0]) (t := 27) ?hr ?_; (case hd => rfl); (case hg => rfl); (case hr => exact sqG); intro gb109 hg w4 hbox hb; have n0_ := Aside0.mk (ze (g := gb108) (o := .cells #[.int .i64 a0_0, .int .i64 a0_1, .int .i64 a0_2, .slice A0_3 l0_3.length c0_3] 24 (0, 0)) (sqK BK108.out) hb); have n1_ := Aside0.mk (zg sqB hb); have n2_ := Aside0.mk (hbox); have n3_ := Aside0.mk ((sqS hg : w.heap.size ≤ gb109)); have n4_ := Aside0.mk ((sqS hg : w.heap.size ≤ gb109)); have n5_ := Aside0.mk ((by rw [hg]; exact Nat.ne_of_lt (zI (g := gb108) (o := .cells #[.int .i64 a0_0, .int .i64 a0_1, .int .i64 a0_2, .slice A0_3 l0_3.length c0_3] 24 (0, 0)) (sqK BK108.out)) : gb108 ≠ gb109)); have n6_ := Aside0.mk ((by rw [hg]; exact Nat.ne_of_gt (zI (g := gb108) (o := .cells #[.int .i64 a0_0, .int .i64 a0_1, .int .i64 a0_2, .slice A0_3 l0_3.length c0_3] 24 (0, 0)) (sqK BK108.out)) : gb109 ≠ gb108)); clear BK108; clear HB; have BK108 := n0_; have HB := n1_; have BK109 := n2_; have GW109 := n3_; have GE109 := n4_; have NB108_109 := n5_; have NB109_108 := n6_; clear n0_ n1_ n2_ n3_ n4_ n5_ n6_; clear hb hbox hg) | ((with_reducible refine zC (N := 3) rfl ?_); refine zD ?hg (N := 3) ?hd (cs := #[.int .i64 0, .int .i64 0, .int .i64 0, .slice none 0 0]) (t := 27) ?hr ?_; (case hd => rfl); (case hg => rfl); (case hr => exact sqG); intro gb110 hg w5 hbox hb; have n0_ := Aside0.mk (ze (g := gb108) (o := .cells #[.int .i64 a0_0, .int .i64 a0_1, .int .i64 a0_2, .slice A0_3 l0_3.length c0_3] 24 (0, 0)) (sqK BK108.out) hb); have n1_ := Aside0.mk (ze (g := gb109) (o := .cells #[.int .i64 0, .int .i64 0, .int .i64 0, .slice none 0 0] 27 (0, 0)) (sqK BK109.out) hb); have n2_ := Aside0.mk (zg sqB hb); have n3_ := Aside0.mk (hbox); have n4_ := Aside0.mk ((sqS hg : w.heap.size ≤ gb110)); have n5_ := Aside0.mk ((sqS hg : w.heap.size ≤ gb110)); have n6_ := Aside0.mk ((by rw [hg]; exact Nat.ne_of_lt (zI (g := gb108) (o := .cells #[.int .i64 a0_0, .int .i64 a0_1, .int .i64 a0_2, .slice A0_3 l0_3.length c0_3] 24 (0, 0)) (sqK BK108.out)) : gb108 ≠ gb110)); have n7_ := Aside0.mk ((by rw [hg]; exact Nat.ne_of_gt (zI (g := gb108) (o := .cells #[.int .i64 a0_0, .int .i64 a0_1, .int .i64 a0_2, .slice A0_3 l0_3.length c0_3] 24 (0, 0)) (sqK BK108.out)) : gb110 ≠ gb108)); have n8_ := Aside0.mk ((by rw [hg]; exact Nat.ne_of_lt (zI (g := gb109) (o := .cells #[.int .i64 0, .int .i64 0, .int .i64 0, .slice none 0 0] 27 (0, 0)) (sqK BK109.out)) : gb109 ≠ gb110)); have n9_ := Aside0.mk ((by rw [hg]; exact Nat.ne_of_gt (zI (g := gb109) (o := .cells #[.int .i64 0, .int .i64 0, .int .i64 0, .slice none 0 0] 27 (0, 0)) (sqK BK109.out)) : gb110 ≠ gb109)); clear BK108; clear BK109; clear HB; have BK108 := n0_; have BK109 := n1_; have HB := n2_; have BK110 := n3_; have GW110 := n4_; have GE110 := n5_; have NB108_110 := n6_; have NB110_108 := n7_; have NB109_110 := n8_; have NB110_109 := n9_; clear n0_ n1_ n2_ n3_ n4_ n5_ n6_ n7_ n8_ n9_; clear hb hbox hg; have hnb6 := NB108_109.out; have hnc6 := NB109_108.out; have hnb7 := NB108_110.out; have hnc7 := NB110_108.out; have hcz8_0 : w5.cell? ⟨gb108, 0, none⟩ = some (.int .i64 a0_0) := (zb BK108.out 0).trans rfl; have hcz8_1 : w5.cell? ⟨gb108, 1, none⟩ = some (.int .i64 a0_1) := (zb BK108.out 1).trans rfl; have hcz8_2 : w5.cell? ⟨gb108, 2, none⟩ = some (.int .i64 a0_2) := (zb BK108.out 2).trans rfl; have hcz8_3 : w5.cell? ⟨gb108, 3, none⟩ = some (.slice A0_3 l0_3.length c0_3) := (zb BK108.out 3).trans rfl; have hfz8_0 := za BK108.out 0; have hfz8_1 := za BK108.out 1; have hfz8_2 := za BK108.out 2; have hfz8_3 := za BK108.out 3; have hnb9 := NB110_109.out; have hnc9 := NB109_110.out; have hcz10_0 : w5.cell? ⟨gb110, 0, none⟩ = some (.int .i64 0) := (zb BK110.out 0).trans rfl; have hcz10_1 : w5.cell? ⟨gb110, 1, none⟩ = some (.int .i64 0) := (zb BK110.out 1).trans rfl; have hcz10_2 : w5.cell? ⟨gb110, 2, none⟩ = some (.int .i64 0) := (zb BK110.out 2).trans rfl; have hcz10_3 : w5.cell? ⟨gb110, 3, none⟩ = some (.slice none 0 0) := (zb BK110.out 3).trans rfl; have hfz10_0 := za BK110.out 0; have hfz10_1 := za BK110.out 1; have hfz10_2 := za BK110.out 2; have hfz10_3 := za BK110.out 3) | ((with_reducible refine zp (f := 38) rfl ?_); refine zP (some 15) rfl rfl Try.func38 (by kernel_rfl) rfl #[.slice A0_3 l0_3.length c0_3] rfl sqM ?_; (with_reducible refine (ql.calls k _ _ l0_3 t111 _ ?side1 ?side2 A2.out).mono ?_); (case side1 => exact Kd.z1 HR0_3.out sqB); (case side2 => exact HC0_3.out); rintro e w11 ⟨v112, rfl, ho0, hb⟩; refine ⟨_, rfl, ?_⟩; have n0_ := Aside0.mk (Kd.qo ho0 (zJ sqB)); have n1_ := Aside0.mk (ze (g := gb108) (o := .cells #[.int .i64 a0_0, .int .i64 a0_1, .int .i64 a0_2, .slice A0_3 l0_3.length c0_3] 24 (0, 0)) (by refine sqK ?_; refine zi ?_ NB108_110.out _; refine sqK ?_; refine zi ?_ NB108_110.out _; refine sqK ?_; refine zi ?_ NB108_110.out _; refine sqK ?_; exact BK108.out) hb); have n2_ := Aside0.mk (ze (g := gb109) (o := .cells #[.int .i64 0, .int .i64 0, .int .i64 0, .slice none 0 0] 27 (0, 0)) (by refine sqK ?_; refine zi ?_ NB109_110.out _; refine sqK ?_; refine zi ?_ NB109_110.out _; refine sqK ?_; refine zi ?_ NB109_110.out _; refine sqK ?_; exact BK109.out) hb); have n3_ := Aside0.mk (ze (g := gb110) (o := .cells #[.int .i64 a0_0, .int .i64 a0_1, .int .i64 a0_2, .slice none 0 0] 27 (0, 0)) (by refine sqK ?_; refine zy (cs := #[.int .i64 a0_0, .int .i64 a0_1, .int .i64 0, .slice none 0 0]) ?_ 2 _ rfl; refine sqK ?_; refine zy (cs := #[.int .i64 a0_0, .int .i64 0, .int .i64 0, .slice none 0 0]) ?_ 1 _ rfl; refine sqK ?_; refine zy (cs := #[.int .i64 0, .int .i64 0, .int .i64 0, .slice none 0 0]) ?_ 0 _ rfl; refine sqK ?_; exact BK110.out) hb); have n4_ := Aside0.mk (zg sqB hb); clear BK108; clear BK109; clear BK110; clear HB; have HO113 := n0_; have BK108 := n1_; have BK109 := n2_; have BK110 := n3_; have HB := n4_; clear n0_ n1_ n2_ n3_ n4_; (try clear hb); (try clear hb2); (try clear hk); (try clear hi); (try clear ho0); obtain ⟨Ao12, co12, eo12⟩ := Kd.zU HO113.out; subst eo12; have hcz13_0 : w11.cell? ⟨gb110, 0, none⟩ = some (.int .i64 a0_0) := (zb BK110.out 0).trans rfl; have hcz13_1 : w11.cell? ⟨gb110, 1, none⟩ = some (.int .i64 a0_1) := (zb BK110.out 1).trans rfl; have hcz13_2 : w11.cell? ⟨gb110, 2, none⟩ = some (.int .i64 a0_2) := (zb BK110.out 2).trans rfl; have hcz13_3 : w11.cell? ⟨gb110, 3, none⟩ = some (.slice none 0 0) := (zb BK110.out 3).trans rfl; have hfz13_0 := za BK110.out 0; have hfz13_1 := za BK110.out 1; have hfz13_2 := za BK110.out 2; have hfz13_3 := za BK110.out 3; have hcz14_0 : w11.cell? ⟨gb109, 0, none⟩ = some (.int .i64 0) := (zb BK109.out 0).trans rfl; have hcz14_1 : w11.cell? ⟨gb109, 1, none⟩ = some (.int .i64 0) := (zb BK109.out 1).trans rfl; have hcz14_2 : w11.cell? ⟨gb109, 2, none⟩ = some (.int .i64 0) := (zb BK109.out 2).trans rfl; have hcz14_3 : w11.cell? ⟨gb109, 3, none⟩ = some (.slice none 0 0) := (zb BK109.out 3).trans rfl; have hfz14_0 := za BK109.out 0; have hfz14_1 := za BK109.out 1; have hfz14_2 := za BK109.out 2; have hfz14_3 := za BK109.out 3))
 refine bodyPost_ret (results_cell_row rfl _ _ gb109 27 #[.int .i64 a0_0, .int .i64 a0_1, .int .i64 a0_2, .slice Ao12 t111.length co12] (0, 0) _ rfl (by refine sqK ?_; refine zy (cs := #[.int .i64 a0_0, .int .i64 a0_1, .int .i64 a0_2, .slice none 0 0]) ?_ 3 _ rfl; refine sqK ?_; refine zy (cs := #[.int .i64 a0_0, .int .i64 a0_1, .int .i64 0, .slice none 0 0]) ?_ 2 _ rfl; refine sqK ?_; refine zy (cs := #[.int .i64 a0_0, .int .i64 0, .int .i64 0, .slice none 0 0]) ?_ 1 _ rfl; refine sqK ?_; refine zy (cs := #[.int .i64 0, .int .i64 0, .int .i64 0, .slice none 0 0]) ?_ 0 _ rfl; refine sqK ?_; refine zi ?_ NB109_110.out _; refine sqK ?_; exact BK109.out) Try.underlying27 rfl (by kernel_rfl)) rfl ?_
 exact ⟨_, sqE, by refine sqR ?_; exact Kd.zo (Kd.zj (p := ⟨gb109, 3, none⟩) (Kd.zj (p := ⟨gb109, 2, none⟩) (Kd.zj (p := ⟨gb109, 1, none⟩) (Kd.zj (p := ⟨gb109, 0, none⟩) (Kd.zj (p := ⟨gb110, 3, none⟩) (Kd.zF (Kd.zF HO113.out BK110.out (by decide)) BK109.out (by decide)) (fun _ hk => hk.1.2) (.slice Ao12 t111.length co12)) (fun _ hk => hk.2) (.int .i64 a0_0)) (fun _ hk => hk.2) (.int .i64 a0_1)) (fun _ hk => hk.2) (.int .i64 a0_2)) (fun _ hk => hk.2) (.slice Ao12 t111.length co12)) (fun _ hk => trivial), sqB⟩

def qv.l0 : Nat → List Int → List Int → Int → Option (Bool)
 | 0, _, _, _ => none
 | k + 1, x0, x1, x5 => if x5 < (x0.length : Int) then (if 0 ≤ x5 then (if x5 < (x1.length : Int) then (if (rd x0 x5) = (rd x1 x5) then (qv.l0 k x0 x1 (wrap64 (x5 + 1))) else (some false)) else (none)) else (none)) else (some true)
def qv.f (k : Nat) (l0 : List Int) (l1 : List Int) : Option (Bool) := if (l0.length : Int) = (l1.length : Int) then (qv.l0 k l0 l1 0) else (some false)
theorem qv.calls (k : Nat) (A0 : Option Addr) (c0 : Nat) (l0 : List Int) (A1 : Option Addr) (c1 : Nat) (l1 : List Int) (r : Bool) (w : World) (hr0 : Kd.C (Kd.int .i64) w A0 l0.length l0) (hc0 : l0.length ≤ c0) (hr1 : Kd.C (Kd.int .i64) w A1 l1.length l1) (hc1 : l1.length ≤ c1) (h : qv.f k l0 l1 = some r) :
  Calls Try.prog 41 #[.slice A0 l0.length c0, .slice A1 l1.length c1] w fun e w' => e = .returned (.bool r) ∧ zw w w' := by
 have HR0 := Aside0.mk hr0
 have HC0 := Aside0.mk hc0
 clear hr0 hc0
 have HR1 := Aside0.mk hr1
 have HC1 := Aside0.mk hc1
 clear hr1 hc1
 have H : (if (l0.length : Int) = (l1.length : Int) then (qv.l0 k l0 l1 0) else (some false)) = some r := h
 clear h
 by_cases c3 : (l0.length : Int) = (l1.length : Int)
 ·rw [if_pos c3] at H
  have c3b0 : ((l0.length : Int) == (l1.length : Int)) = true := beq_iff_eq.mpr c3
  have c3b1 : ((l0.length : Int) != (l1.length : Int)) = false := bne_eq_false_iff_eq.mpr c3
  have c3b2 : (l0.length == l1.length) = true := by first | simpa using c3 | (simp at c3 ⊢; omega)
  clear c3
  have H' := Aside0.mk H
  clear H
  go_enter Try.func41, Try.ntmps41
  go_wp2
  repeat (go_quiet (fail); try go_wp2)
  go_loopg [5] k (fun kq v5 w' => ∃ (x5_1 : Int), v5 = .int .i64 x5_1 ∧ Aside0 (qv.l0 kq l0 l1 x5_1 = some r) ∧ Aside0 (kq ≤ k) ∧ zw w w')
  case atStart => exact ⟨(0), (sqD), H', ⟨Nat.le_refl _⟩, by repeat (first | exact zw.refl _ | apply zw.step)⟩
  case round =>
   clear H'
   try clear c1
   try clear p2
   try clear c3
   try clear c3b0
   try clear c3b1
   try clear c3b2
   obtain ⟨x5_1, rfl, HA, HK1, ⟨m1, rfl⟩⟩ := hrel
   cases gk with
   | zero => exact absurd HA.out (by simp [qv.l0])
   | succ k1 =>
    have H := HA.out
    clear HA
    simp only [qv.l0] at H
    by_cases c4 : x5_1 < (l0.length : Int)
    ·rw [if_pos c4] at H
     have c4b0 : decide (x5_1 < (l0.length : Int)) = true := decide_eq_true c4
     clear c4
     by_cases c5 : 0 ≤ x5_1
     ·rw [if_pos c5] at H
      have c5b0 : decide (0 ≤ x5_1) = true := decide_eq_true c5
      clear c5
      by_cases c6 : x5_1 < (l1.length : Int)
      ·rw [if_pos c6] at H
       have c6b0 : decide (x5_1 < (l1.length : Int)) = true := decide_eq_true c6
       clear c6
       by_cases c7 : (rd l0 x5_1) = (rd l1 x5_1)
       ·rw [if_pos c7] at H
        have c7b0 : ((rd l0 x5_1) == (rd l1 x5_1)) = true := beq_iff_eq.mpr c7
        have c7b1 : ((rd l0 x5_1) != (rd l1 x5_1)) = false := bne_eq_false_iff_eq.mpr c7
        clear c7
        have H' := Aside0.mk H
        clear H
        have p114 : 0 ≤ (x5_1 : Int) := of_decide_eq_true sqA
        have q114 : x5_1 < (l0.length : Int) := of_decide_eq_true sqA
        obtain ⟨ad114, e114, hx114_0⟩ := Kd.qh HR0.out x5_1 p114 q114
        cases e114
        replace p114 := eq_true p114
        replace q114 := eq_true q114
        have p115 : 0 ≤ (x5_1 : Int) := of_decide_eq_true sqA
        have q115 : x5_1 < (l1.length : Int) := of_decide_eq_true sqA
        obtain ⟨ad115, e115, hx115_0⟩ := Kd.qh HR1.out x5_1 p115 q115
        cases e115
        replace p115 := eq_true p115
        replace q115 := eq_true q115
        go_wp2
        repeat (go_quiet (fail); try go_wp2)
        go_roundg k1
        case measure => have := HK1.out; omega
        case rel => exact ⟨(wrap64 (x5_1 + 1)), (sqD), H', ⟨by have := HK1.out; omega⟩, by repeat (first | exact zw.refl _ | apply zw.step)⟩
       ·rw [if_neg c7] at H
        have c7b0 : ((rd l0 x5_1) == (rd l1 x5_1)) = false := beq_eq_false_iff_ne.mpr c7
        have c7b1 : ((rd l0 x5_1) != (rd l1 x5_1)) = true := bne_iff_ne.mpr c7
        obtain rfl := Option.some.inj H
        have p114 : 0 ≤ (x5_1 : Int) := of_decide_eq_true sqA
        have q114 : x5_1 < (l0.length : Int) := of_decide_eq_true sqA
        obtain ⟨ad114, e114, hx114_0⟩ := Kd.qh HR0.out x5_1 p114 q114
        cases e114
        replace p114 := eq_true p114
        replace q114 := eq_true q114
        have p115 : 0 ≤ (x5_1 : Int) := of_decide_eq_true sqA
        have q115 : x5_1 < (l1.length : Int) := of_decide_eq_true sqA
        obtain ⟨ad115, e115, hx115_0⟩ := Kd.qh HR1.out x5_1 p115 q115
        cases e115
        replace p115 := eq_true p115
        replace q115 := eq_true q115
        go_wp2
        repeat (go_quiet (fail); try go_wp2)
        go_ret
        exact ⟨sqD, by repeat (first | exact zw.refl _ | apply zw.step)⟩
      ·rw [if_neg c6] at H
       exact absurd H (by simp)
     ·rw [if_neg c5] at H
      exact absurd H (by simp)
    ·rw [if_neg c4] at H
     have c4b0 : decide (x5_1 < (l0.length : Int)) = false := decide_eq_false c4
     clear c4
     obtain rfl := Option.some.inj H
     go_wp2
     repeat (go_quiet (fail); try go_wp2)
     go_ret
     exact ⟨sqD, by repeat (first | exact zw.refl _ | apply zw.step)⟩
 ·rw [if_neg c3] at H
  have c3b0 : ((l0.length : Int) == (l1.length : Int)) = false := beq_eq_false_iff_ne.mpr c3
  have c3b1 : ((l0.length : Int) != (l1.length : Int)) = true := bne_iff_ne.mpr c3
  have c3b2 : (l0.length == l1.length) = false := by first | simpa using c3 | (simp at c3 ⊢; omega)
  obtain rfl := Option.some.inj H
  go_enter Try.func41, Try.ntmps41
  go_wp2
  repeat (go_quiet (fail); try go_wp2)
  go_ret
  exact ⟨sqD, by repeat (first | exact zw.refl _ | apply zw.step)⟩

def zB.f (k : Nat) (a0_0 : Int) (a0_1 : Int) (a0_2 : Int) (l0_3 : List Int) (a1_0 : Int) (a1_1 : Int) (a1_2 : Int) (l1_3 : List Int) : Option (Bool) := if a0_0 = a1_0 then (if a0_1 = a1_1 then (if a0_2 = a1_2 then ((qv.f k l0_3 l1_3).bind fun t118 => (if t118 = true then (some true) else (some false))) else (some false)) else (some false)) else (some false)
theorem zB.calls (k : Nat) (a0_0 : Int) (a0_1 : Int) (a0_2 : Int) (A0_3 : Option Addr) (c0_3 : Nat) (l0_3 : List Int) (a1_0 : Int) (a1_1 : Int) (a1_2 : Int) (A1_3 : Option Addr) (c1_3 : Nat) (l1_3 : List Int) (r : Bool) (w : World) (hr0_3 : Kd.C (Kd.int .i64) w A0_3 l0_3.length l0_3) (hc0_3 : l0_3.length ≤ c0_3) (hr1_3 : Kd.C (Kd.int .i64) w A1_3 l1_3.length l1_3) (hc1_3 : l1_3.length ≤ c1_3) (h : zB.f k a0_0 a0_1 a0_2 l0_3 a1_0 a1_1 a1_2 l1_3 = some r) :
  Calls Try.prog 15 #[.agg #[.int .i64 a0_0, .int .i64 a0_1, .int .i64 a0_2, .slice A0_3 l0_3.length c0_3], .agg #[.int .i64 a1_0, .int .i64 a1_1, .int .i64 a1_2, .slice A1_3 l1_3.length c1_3]] w fun e w' => e = .returned (.bool r) ∧ Below w.heap.size w w' := by
 have hu27 := Try.underlying27
 have HR0_3 := Aside0.mk hr0_3
 have HC0_3 := Aside0.mk hc0_3
 clear hr0_3 hc0_3
 have HR1_3 := Aside0.mk hr1_3
 have HC1_3 := Aside0.mk hc1_3
 clear hr1_3 hc1_3
 have HB := Aside0.mk (Below.refl w.heap.size w)
 have H : (if a0_0 = a1_0 then (if a0_1 = a1_1 then (if a0_2 = a1_2 then ((qv.f k l0_3 l1_3).bind fun t118 => (if t118 = true then (some true) else (some false))) else (some false)) else (some false)) else (some false)) = some r := h
 clear h
 by_cases c3 : a0_0 = a1_0
 ·rw [if_pos c3] at H
  have c3b0 : (a0_0 == a1_0) = true := beq_iff_eq.mpr c3
  have c3b1 : (a0_0 != a1_0) = false := bne_eq_false_iff_eq.mpr c3
  clear c3
  by_cases c4 : a0_1 = a1_1
  ·rw [if_pos c4] at H
   have c4b0 : (a0_1 == a1_1) = true := beq_iff_eq.mpr c4
   have c4b1 : (a0_1 != a1_1) = false := bne_eq_false_iff_eq.mpr c4
   clear c4
   by_cases c5 : a0_2 = a1_2
   ·rw [if_pos c5] at H
    have c5b0 : (a0_2 == a1_2) = true := beq_iff_eq.mpr c5
    have c5b1 : (a0_2 != a1_2) = false := bne_eq_false_iff_eq.mpr c5
    clear c5
    replace H := Option.bind_eq_some_iff.mp H
    obtain ⟨t118, A60, H⟩ := H
    replace H : (if t118 = true then (some true) else (some false)) = some r := H
    have A6 := Aside0.mk A60
    clear A60
    by_cases c7 : t118 = true
    ·subst c7
     have H1 : (some true) = some r := by rw [if_pos rfl] at H; exact H
     clear H
     have H := H1
     clear H1
     obtain rfl := Option.some.inj H
     go_enter Try.func15, Try.ntmps15
     go_wp2_with (first | ((with_reducible refine zC (N := 2) rfl ?_); refine zD ?hg (N := 2) ?hd (cs := #[.int .i64 a0_0, .int .i64 a0_1, .int .i64 a0_2, .slice A0_3 l0_3.length c0_3]) (t := 27) ?hr ?_; (case hd => rfl); (case hg => rfl); (case hr => exact sqG); intro gb116 hg w8 hbox hb; have n0_ := Aside0.mk (zg sqB hb); have n1_ := Aside0.mk (hbox); have n2_ := Aside0.mk ((sqS hg : w.heap.size ≤ gb116)); have n3_ := Aside0.mk ((sqS hg : w.heap.size ≤ gb116)); clear HB; have HB := n0_; have BK116 := n1_; have GW116 := n2_; have GE116 := n3_; clear n0_ n1_ n2_ n3_; clear hb hbox hg) | ((with_reducible refine zC (N := 3) rfl ?_); refine zD ?hg (N := 3) ?hd (cs := #[.int .i64 a1_0, .int .i64 a1_1, .int .i64 a1_2, .slice A1_3 l1_3.length c1_3]) (t := 27) ?hr ?_; (case hd => rfl); (case hg => rfl); (case hr => exact sqG); intro gb117 hg w9 hbox hb; have n0_ := Aside0.mk (ze (g := gb116) (o := .cells #[.int .i64 a0_0, .int .i64 a0_1, .int .i64 a0_2, .slice A0_3 l0_3.length c0_3] 27 (0, 0)) (sqK BK116.out) hb); have n1_ := Aside0.mk (zg sqB hb); have n2_ := Aside0.mk (hbox); have n3_ := Aside0.mk ((sqS hg : w.heap.size ≤ gb117)); have n4_ := Aside0.mk ((sqS hg : w.heap.size ≤ gb117)); have n5_ := Aside0.mk ((by rw [hg]; exact Nat.ne_of_lt (zI (g := gb116) (o := .cells #[.int .i64 a0_0, .int .i64 a0_1, .int .i64 a0_2, .slice A0_3 l0_3.length c0_3] 27 (0, 0)) (sqK BK116.out)) : gb116 ≠ gb117)); have n6_ := Aside0.mk ((by rw [hg]; exact Nat.ne_of_gt (zI (g := gb116) (o := .cells #[.int .i64 a0_0, .int .i64 a0_1, .int .i64 a0_2, .slice A0_3 l0_3.length c0_3] 27 (0, 0)) (sqK BK116.out)) : gb117 ≠ gb116)); clear BK116; clear HB; have BK116 := n0_; have HB := n1_; have BK117 := n2_; have GW117 := n3_; have GE117 := n4_; have NB116_117 := n5_; have NB117_116 := n6_; clear n0_ n1_ n2_ n3_ n4_ n5_ n6_; clear hb hbox hg; have hnb10 := NB116_117.out; have hnc10 := NB117_116.out; have hcz11_0 : w9.cell? ⟨gb116, 0, none⟩ = some (.int .i64 a0_0) := (zb BK116.out 0).trans rfl; have hcz11_1 : w9.cell? ⟨gb116, 1, none⟩ = some (.int .i64 a0_1) := (zb BK116.out 1).trans rfl; have hcz11_2 : w9.cell? ⟨gb116, 2, none⟩ = some (.int .i64 a0_2) := (zb BK116.out 2).trans rfl; have hcz11_3 : w9.cell? ⟨gb116, 3, none⟩ = some (.slice A0_3 l0_3.length c0_3) := (zb BK116.out 3).trans rfl; have hfz11_0 := za BK116.out 0; have hfz11_1 := za BK116.out 1; have hfz11_2 := za BK116.out 2; have hfz11_3 := za BK116.out 3; have hcz12_0 : w9.cell? ⟨gb117, 0, none⟩ = some (.int .i64 a1_0) := (zb BK117.out 0).trans rfl; have hcz12_1 : w9.cell? ⟨gb117, 1, none⟩ = some (.int .i64 a1_1) := (zb BK117.out 1).trans rfl; have hcz12_2 : w9.cell? ⟨gb117, 2, none⟩ = some (.int .i64 a1_2) := (zb BK117.out 2).trans rfl; have hcz12_3 : w9.cell? ⟨gb117, 3, none⟩ = some (.slice A1_3 l1_3.length c1_3) := (zb BK117.out 3).trans rfl; have hfz12_0 := za BK117.out 0; have hfz12_1 := za BK117.out 1; have hfz12_2 := za BK117.out 2; have hfz12_3 := za BK117.out 3) | ((with_reducible refine zp (f := 41) rfl ?_); refine zP (some 24) rfl rfl Try.func41 (by kernel_rfl) rfl #[.slice A0_3 l0_3.length c0_3, .slice A1_3 l1_3.length c1_3] rfl sqM ?_; (with_reducible refine (qv.calls k _ _ l0_3 _ _ l1_3 true _ ?side1 ?side2 ?side3 ?side4 A6.out).mono ?_); (case side1 => exact sqC (Kd.z1 HR0_3.out HB.out)); (case side2 => exact HC0_3.out); (case side3 => exact sqC (Kd.z1 HR1_3.out HB.out)); (case side4 => exact HC1_3.out); rintro e w' ⟨rfl, ⟨nd, rfl⟩⟩; refine ⟨_, rfl, ?_⟩))
     go_ret
     exact ⟨sqE, sqB⟩
    ·replace c7 := Bool.eq_false_iff.mpr c7
     subst c7
     have H1 : (some false) = some r := by rw [if_neg (show ¬ (false = true) by decide)] at H; exact H
     clear H
     have H := H1
     clear H1
     obtain rfl := Option.some.inj H
     go_enter Try.func15, Try.ntmps15
     go_wp2_with (first | ((with_reducible refine zC (N := 2) rfl ?_); refine zD ?hg (N := 2) ?hd (cs := #[.int .i64 a0_0, .int .i64 a0_1, .int .i64 a0_2, .slice A0_3 l0_3.length c0_3]) (t := 27) ?hr ?_; (case hd => rfl); (case hg => rfl); (case hr => exact sqG); intro gb116 hg w13 hbox hb; have n0_ := Aside0.mk (zg sqB hb); have n1_ := Aside0.mk (hbox); have n2_ := Aside0.mk ((sqS hg : w.heap.size ≤ gb116)); have n3_ := Aside0.mk ((sqS hg : w.heap.size ≤ gb116)); clear HB; have HB := n0_; have BK116 := n1_; have GW116 := n2_; have GE116 := n3_; clear n0_ n1_ n2_ n3_; clear hb hbox hg) | ((with_reducible refine zC (N := 3) rfl ?_); refine zD ?hg (N := 3) ?hd (cs := #[.int .i64 a1_0, .int .i64 a1_1, .int .i64 a1_2, .slice A1_3 l1_3.length c1_3]) (t := 27) ?hr ?_; (case hd => rfl); (case hg => rfl); (case hr => exact sqG); intro gb117 hg w14 hbox hb; have n0_ := Aside0.mk (ze (g := gb116) (o := .cells #[.int .i64 a0_0, .int .i64 a0_1, .int .i64 a0_2, .slice A0_3 l0_3.length c0_3] 27 (0, 0)) (sqK BK116.out) hb); have n1_ := Aside0.mk (zg sqB hb); have n2_ := Aside0.mk (hbox); have n3_ := Aside0.mk ((sqS hg : w.heap.size ≤ gb117)); have n4_ := Aside0.mk ((sqS hg : w.heap.size ≤ gb117)); have n5_ := Aside0.mk ((by rw [hg]; exact Nat.ne_of_lt (zI (g := gb116) (o := .cells #[.int .i64 a0_0, .int .i64 a0_1, .int .i64 a0_2, .slice A0_3 l0_3.length c0_3] 27 (0, 0)) (sqK BK116.out)) : gb116 ≠ gb117)); have n6_ := Aside0.mk ((by rw [hg]; exact Nat.ne_of_gt (zI (g := gb116) (o := .cells #[.int .i64 a0_0, .int .i64 a0_1, .int .i64 a0_2, .slice A0_3 l0_3.length c0_3] 27 (0, 0)) (sqK BK116.out)) : gb117 ≠ gb116)); clear BK116; clear HB; have BK116 := n0_; have HB := n1_; have BK117 := n2_; have GW117 := n3_; have GE117 := n4_; have NB116_117 := n5_; have NB117_116 := n6_; clear n0_ n1_ n2_ n3_ n4_ n5_ n6_; clear hb hbox hg; have hnb15 := NB116_117.out; have hnc15 := NB117_116.out; have hcz16_0 : w14.cell? ⟨gb116, 0, none⟩ = some (.int .i64 a0_0) := (zb BK116.out 0).trans rfl; have hcz16_1 : w14.cell? ⟨gb116, 1, none⟩ = some (.int .i64 a0_1) := (zb BK116.out 1).trans rfl; have hcz16_2 : w14.cell? ⟨gb116, 2, none⟩ = some (.int .i64 a0_2) := (zb BK116.out 2).trans rfl; have hcz16_3 : w14.cell? ⟨gb116, 3, none⟩ = some (.slice A0_3 l0_3.length c0_3) := (zb BK116.out 3).trans rfl; have hfz16_0 := za BK116.out 0; have hfz16_1 := za BK116.out 1; have hfz16_2 := za BK116.out 2; have hfz16_3 := za BK116.out 3; have hcz17_0 : w14.cell? ⟨gb117, 0, none⟩ = some (.int .i64 a1_0) := (zb BK117.out 0).trans rfl; have hcz17_1 : w14.cell? ⟨gb117, 1, none⟩ = some (.int .i64 a1_1) := (zb BK117.out 1).trans rfl; have hcz17_2 : w14.cell? ⟨gb117, 2, none⟩ = some (.int .i64 a1_2) := (zb BK117.out 2).trans rfl; have hcz17_3 : w14.cell? ⟨gb117, 3, none⟩ = some (.slice A1_3 l1_3.length c1_3) := (zb BK117.out 3).trans rfl; have hfz17_0 := za BK117.out 0; have hfz17_1 := za BK117.out 1; have hfz17_2 := za BK117.out 2; have hfz17_3 := za BK117.out 3) | ((with_reducible refine zp (f := 41) rfl ?_); refine zP (some 24) rfl rfl Try.func41 (by kernel_rfl) rfl #[.slice A0_3 l0_3.length c0_3, .slice A1_3 l1_3.length c1_3] rfl sqM ?_; (with_reducible refine (qv.calls k _ _ l0_3 _ _ l1_3 false _ ?side1 ?side2 ?side3 ?side4 A6.out).mono ?_); (case side1 => exact sqC (Kd.z1 HR0_3.out HB.out)); (case side2 => exact HC0_3.out); (case side3 => exact sqC (Kd.z1 HR1_3.out HB.out)); (case side4 => exact HC1_3.out); rintro e w' ⟨rfl, ⟨nd, rfl⟩⟩; refine ⟨_, rfl, ?_⟩))
     go_ret
     exact ⟨sqE, sqB⟩
   ·rw [if_neg c5] at H
    have c5b0 : (a0_2 == a1_2) = false := beq_eq_false_iff_ne.mpr c5
    have c5b1 : (a0_2 != a1_2) = true := bne_iff_ne.mpr c5
    obtain rfl := Option.some.inj H
    go_enter Try.func15, Try.ntmps15
    go_wp2_with (first | ((with_reducible refine zC (N := 2) rfl ?_); refine zD ?hg (N := 2) ?hd (cs := #[.int .i64 a0_0, .int .i64 a0_1, .int .i64 a0_2, .slice A0_3 l0_3.length c0_3]) (t := 27) ?hr ?_; (case hd => rfl); (case hg => rfl); (case hr => exact sqG); intro gb116 hg w18 hbox hb; have n0_ := Aside0.mk (zg sqB hb); have n1_ := Aside0.mk (hbox); have n2_ := Aside0.mk ((sqS hg : w.heap.size ≤ gb116)); have n3_ := Aside0.mk ((sqS hg : w.heap.size ≤ gb116)); clear HB; have HB := n0_; have BK116 := n1_; have GW116 := n2_; have GE116 := n3_; clear n0_ n1_ n2_ n3_; clear hb hbox hg) | ((with_reducible refine zC (N := 3) rfl ?_); refine zD ?hg (N := 3) ?hd (cs := #[.int .i64 a1_0, .int .i64 a1_1, .int .i64 a1_2, .slice A1_3 l1_3.length c1_3]) (t := 27) ?hr ?_; (case hd => rfl); (case hg => rfl); (case hr => exact sqG); intro gb117 hg w19 hbox hb; have n0_ := Aside0.mk (ze (g := gb116) (o := .cells #[.int .i64 a0_0, .int .i64 a0_1, .int .i64 a0_2, .slice A0_3 l0_3.length c0_3] 27 (0, 0)) (sqK BK116.out) hb); have n1_ := Aside0.mk (zg sqB hb); have n2_ := Aside0.mk (hbox); have n3_ := Aside0.mk ((sqS hg : w.heap.size ≤ gb117)); have n4_ := Aside0.mk ((sqS hg : w.heap.size ≤ gb117)); have n5_ := Aside0.mk ((by rw [hg]; exact Nat.ne_of_lt (zI (g := gb116) (o := .cells #[.int .i64 a0_0, .int .i64 a0_1, .int .i64 a0_2, .slice A0_3 l0_3.length c0_3] 27 (0, 0)) (sqK BK116.out)) : gb116 ≠ gb117)); have n6_ := Aside0.mk ((by rw [hg]; exact Nat.ne_of_gt (zI (g := gb116) (o := .cells #[.int .i64 a0_0, .int .i64 a0_1, .int .i64 a0_2, .slice A0_3 l0_3.length c0_3] 27 (0, 0)) (sqK BK116.out)) : gb117 ≠ gb116)); clear BK116; clear HB; have BK116 := n0_; have HB := n1_; have BK117 := n2_; have GW117 := n3_; have GE117 := n4_; have NB116_117 := n5_; have NB117_116 := n6_; clear n0_ n1_ n2_ n3_ n4_ n5_ n6_; clear hb hbox hg; have hnb20 := NB116_117.out; have hnc20 := NB117_116.out; have hcz21_0 : w19.cell? ⟨gb116, 0, none⟩ = some (.int .i64 a0_0) := (zb BK116.out 0).trans rfl; have hcz21_1 : w19.cell? ⟨gb116, 1, none⟩ = some (.int .i64 a0_1) := (zb BK116.out 1).trans rfl; have hcz21_2 : w19.cell? ⟨gb116, 2, none⟩ = some (.int .i64 a0_2) := (zb BK116.out 2).trans rfl; have hcz21_3 : w19.cell? ⟨gb116, 3, none⟩ = some (.slice A0_3 l0_3.length c0_3) := (zb BK116.out 3).trans rfl; have hfz21_0 := za BK116.out 0; have hfz21_1 := za BK116.out 1; have hfz21_2 := za BK116.out 2; have hfz21_3 := za BK116.out 3; have hcz22_0 : w19.cell? ⟨gb117, 0, none⟩ = some (.int .i64 a1_0) := (zb BK117.out 0).trans rfl; have hcz22_1 : w19.cell? ⟨gb117, 1, none⟩ = some (.int .i64 a1_1) := (zb BK117.out 1).trans rfl; have hcz22_2 : w19.cell? ⟨gb117, 2, none⟩ = some (.int .i64 a1_2) := (zb BK117.out 2).trans rfl; have hcz22_3 : w19.cell? ⟨gb117, 3, none⟩ = some (.slice A1_3 l1_3.length c1_3) := (zb BK117.out 3).trans rfl; have hfz22_0 := za BK117.out 0; have hfz22_1 := za BK117.out 1; have hfz22_2 := za BK117.out 2; have hfz22_3 := za BK117.out 3))
    go_ret
    exact ⟨sqE, sqB⟩
  ·rw [if_neg c4] at H
   have c4b0 : (a0_1 == a1_1) = false := beq_eq_false_iff_ne.mpr c4
   have c4b1 : (a0_1 != a1_1) = true := bne_iff_ne.mpr c4
   obtain rfl := Option.some.inj H
   go_enter Try.func15, Try.ntmps15
   go_wp2_with (first | ((with_reducible refine zC (N := 2) rfl ?_); refine zD ?hg (N := 2) ?hd (cs := #[.int .i64 a0_0, .int .i64 a0_1, .int .i64 a0_2, .slice A0_3 l0_3.length c0_3]) (t := 27) ?hr ?_; (case hd => rfl); (case hg => rfl); (case hr => exact sqG); intro gb116 hg w23 hbox hb; have n0_ := Aside0.mk (zg sqB hb); have n1_ := Aside0.mk (hbox); have n2_ := Aside0.mk ((sqS hg : w.heap.size ≤ gb116)); have n3_ := Aside0.mk ((sqS hg : w.heap.size ≤ gb116)); clear HB; have HB := n0_; have BK116 := n1_; have GW116 := n2_; have GE116 := n3_; clear n0_ n1_ n2_ n3_; clear hb hbox hg) | ((with_reducible refine zC (N := 3) rfl ?_); refine zD ?hg (N := 3) ?hd (cs := #[.int .i64 a1_0, .int .i64 a1_1, .int .i64 a1_2, .slice A1_3 l1_3.length c1_3]) (t := 27) ?hr ?_; (case hd => rfl); (case hg => rfl); (case hr => exact sqG); intro gb117 hg w24 hbox hb; have n0_ := Aside0.mk (ze (g := gb116) (o := .cells #[.int .i64 a0_0, .int .i64 a0_1, .int .i64 a0_2, .slice A0_3 l0_3.length c0_3] 27 (0, 0)) (sqK BK116.out) hb); have n1_ := Aside0.mk (zg sqB hb); have n2_ := Aside0.mk (hbox); have n3_ := Aside0.mk ((sqS hg : w.heap.size ≤ gb117)); have n4_ := Aside0.mk ((sqS hg : w.heap.size ≤ gb117)); have n5_ := Aside0.mk ((by rw [hg]; exact Nat.ne_of_lt (zI (g := gb116) (o := .cells #[.int .i64 a0_0, .int .i64 a0_1, .int .i64 a0_2, .slice A0_3 l0_3.length c0_3] 27 (0, 0)) (sqK BK116.out)) : gb116 ≠ gb117)); have n6_ := Aside0.mk ((by rw [hg]; exact Nat.ne_of_gt (zI (g := gb116) (o := .cells #[.int .i64 a0_0, .int .i64 a0_1, .int .i64 a0_2, .slice A0_3 l0_3.length c0_3] 27 (0, 0)) (sqK BK116.out)) : gb117 ≠ gb116)); clear BK116; clear HB; have BK116 := n0_; have HB := n1_; have BK117 := n2_; have GW117 := n3_; have GE117 := n4_; have NB116_117 := n5_; have NB117_116 := n6_; clear n0_ n1_ n2_ n3_ n4_ n5_ n6_; clear hb hbox hg; have hnb25 := NB116_117.out; have hnc25 := NB117_116.out; have hcz26_0 : w24.cell? ⟨gb116, 0, none⟩ = some (.int .i64 a0_0) := (zb BK116.out 0).trans rfl; have hcz26_1 : w24.cell? ⟨gb116, 1, none⟩ = some (.int .i64 a0_1) := (zb BK116.out 1).trans rfl; have hcz26_2 : w24.cell? ⟨gb116, 2, none⟩ = some (.int .i64 a0_2) := (zb BK116.out 2).trans rfl; have hcz26_3 : w24.cell? ⟨gb116, 3, none⟩ = some (.slice A0_3 l0_3.length c0_3) := (zb BK116.out 3).trans rfl; have hfz26_0 := za BK116.out 0; have hfz26_1 := za BK116.out 1; have hfz26_2 := za BK116.out 2; have hfz26_3 := za BK116.out 3; have hcz27_0 : w24.cell? ⟨gb117, 0, none⟩ = some (.int .i64 a1_0) := (zb BK117.out 0).trans rfl; have hcz27_1 : w24.cell? ⟨gb117, 1, none⟩ = some (.int .i64 a1_1) := (zb BK117.out 1).trans rfl; have hcz27_2 : w24.cell? ⟨gb117, 2, none⟩ = some (.int .i64 a1_2) := (zb BK117.out 2).trans rfl; have hcz27_3 : w24.cell? ⟨gb117, 3, none⟩ = some (.slice A1_3 l1_3.length c1_3) := (zb BK117.out 3).trans rfl; have hfz27_0 := za BK117.out 0; have hfz27_1 := za BK117.out 1; have hfz27_2 := za BK117.out 2; have hfz27_3 := za BK117.out 3))
   go_ret
   exact ⟨sqE, sqB⟩
 ·rw [if_neg c3] at H
  have c3b0 : (a0_0 == a1_0) = false := beq_eq_false_iff_ne.mpr c3
  have c3b1 : (a0_0 != a1_0) = true := bne_iff_ne.mpr c3
  obtain rfl := Option.some.inj H
  go_enter Try.func15, Try.ntmps15
  go_wp2_with (first | ((with_reducible refine zC (N := 2) rfl ?_); refine zD ?hg (N := 2) ?hd (cs := #[.int .i64 a0_0, .int .i64 a0_1, .int .i64 a0_2, .slice A0_3 l0_3.length c0_3]) (t := 27) ?hr ?_; (case hd => rfl); (case hg => rfl); (case hr => exact sqG); intro gb116 hg w28 hbox hb; have n0_ := Aside0.mk (zg sqB hb); have n1_ := Aside0.mk (hbox); have n2_ := Aside0.mk ((sqS hg : w.heap.size ≤ gb116)); have n3_ := Aside0.mk ((sqS hg : w.heap.size ≤ gb116)); clear HB; have HB := n0_; have BK116 := n1_; have GW116 := n2_; have GE116 := n3_; clear n0_ n1_ n2_ n3_; clear hb hbox hg) | ((with_reducible refine zC (N := 3) rfl ?_); refine zD ?hg (N := 3) ?hd (cs := #[.int .i64 a1_0, .int .i64 a1_1, .int .i64 a1_2, .slice A1_3 l1_3.length c1_3]) (t := 27) ?hr ?_; (case hd => rfl); (case hg => rfl); (case hr => exact sqG); intro gb117 hg w29 hbox hb; have n0_ := Aside0.mk (ze (g := gb116) (o := .cells #[.int .i64 a0_0, .int .i64 a0_1, .int .i64 a0_2, .slice A0_3 l0_3.length c0_3] 27 (0, 0)) (sqK BK116.out) hb); have n1_ := Aside0.mk (zg sqB hb); have n2_ := Aside0.mk (hbox); have n3_ := Aside0.mk ((sqS hg : w.heap.size ≤ gb117)); have n4_ := Aside0.mk ((sqS hg : w.heap.size ≤ gb117)); have n5_ := Aside0.mk ((by rw [hg]; exact Nat.ne_of_lt (zI (g := gb116) (o := .cells #[.int .i64 a0_0, .int .i64 a0_1, .int .i64 a0_2, .slice A0_3 l0_3.length c0_3] 27 (0, 0)) (sqK BK116.out)) : gb116 ≠ gb117)); have n6_ := Aside0.mk ((by rw [hg]; exact Nat.ne_of_gt (zI (g := gb116) (o := .cells #[.int .i64 a0_0, .int .i64 a0_1, .int .i64 a0_2, .slice A0_3 l0_3.length c0_3] 27 (0, 0)) (sqK BK116.out)) : gb117 ≠ gb116)); clear BK116; clear HB; have BK116 := n0_; have HB := n1_; have BK117 := n2_; have GW117 := n3_; have GE117 := n4_; have NB116_117 := n5_; have NB117_116 := n6_; clear n0_ n1_ n2_ n3_ n4_ n5_ n6_; clear hb hbox hg; have hnb30 := NB116_117.out; have hnc30 := NB117_116.out; have hcz31_0 : w29.cell? ⟨gb116, 0, none⟩ = some (.int .i64 a0_0) := (zb BK116.out 0).trans rfl; have hcz31_1 : w29.cell? ⟨gb116, 1, none⟩ = some (.int .i64 a0_1) := (zb BK116.out 1).trans rfl; have hcz31_2 : w29.cell? ⟨gb116, 2, none⟩ = some (.int .i64 a0_2) := (zb BK116.out 2).trans rfl; have hcz31_3 : w29.cell? ⟨gb116, 3, none⟩ = some (.slice A0_3 l0_3.length c0_3) := (zb BK116.out 3).trans rfl; have hfz31_0 := za BK116.out 0; have hfz31_1 := za BK116.out 1; have hfz31_2 := za BK116.out 2; have hfz31_3 := za BK116.out 3; have hcz32_0 : w29.cell? ⟨gb117, 0, none⟩ = some (.int .i64 a1_0) := (zb BK117.out 0).trans rfl; have hcz32_1 : w29.cell? ⟨gb117, 1, none⟩ = some (.int .i64 a1_1) := (zb BK117.out 1).trans rfl; have hcz32_2 : w29.cell? ⟨gb117, 2, none⟩ = some (.int .i64 a1_2) := (zb BK117.out 2).trans rfl; have hcz32_3 : w29.cell? ⟨gb117, 3, none⟩ = some (.slice A1_3 l1_3.length c1_3) := (zb BK117.out 3).trans rfl; have hfz32_0 := za BK117.out 0; have hfz32_1 := za BK117.out 1; have hfz32_2 := za BK117.out 2; have hfz32_3 := za BK117.out 3))
  go_ret
  exact ⟨sqE, sqB⟩

def zL.f (a0 : Int) (a1 : Int) (a2 : Int) : Option (Bool) := if a0 ≥ a1 then (some (decide (a0 ≤ a2))) else (some false)
theorem zL.calls (a0 : Int) (a1 : Int) (a2 : Int) (r : Bool) (w : World) (h : zL.f a0 a1 a2 = some r) :
  Calls Try.prog 43 #[.int .i64 a0, .int .i64 a1, .int .i64 a2] w fun e w' => e = .returned (.bool r) ∧ zw w w' := by
 have H : (if a0 ≥ a1 then (some (decide (a0 ≤ a2))) else (some false)) = some r := h
 clear h
 by_cases c4 : a0 ≥ a1
 ·rw [if_pos c4] at H
  have c4b0 : decide (a1 ≤ a0) = true := decide_eq_true c4
  clear c4
  obtain rfl := Option.some.inj H
  go_enter Try.func43, Try.ntmps43
  go_wp2
  go_ret
  exact ⟨sqD, by repeat (first | exact zw.refl _ | apply zw.step)⟩
 ·rw [if_neg c4] at H
  have c4b0 : decide (a1 ≤ a0) = false := decide_eq_false c4
  clear c4
  obtain rfl := Option.some.inj H
  go_enter Try.func43, Try.ntmps43
  go_wp2
  go_ret
  exact ⟨sqD, by repeat (first | exact zw.refl _ | apply zw.step)⟩

def zW.f (a0 : Int) : Option (Bool) := if a0 = 2 then (some true) else (if a0 = 3 then (some true) else (if a0 = 5 then (some true) else (some (a0 == 7))))
theorem zW.calls (a0 : Int) (r : Bool) (w : World) (h : zW.f a0 = some r) :
  Calls Try.prog 66 #[.int .i64 a0] w fun e w' => e = .returned (.bool r) ∧ zw w w' := by
 have H : (if a0 = 2 then (some true) else (if a0 = 3 then (some true) else (if a0 = 5 then (some true) else (some (a0 == 7))))) = some r := h
 clear h
 by_cases c2 : a0 = 2
 ·rw [if_pos c2] at H
  have c2b0 : (a0 == 2) = true := beq_iff_eq.mpr c2
  have c2b1 : (a0 != 2) = false := bne_eq_false_iff_eq.mpr c2
  clear c2
  obtain rfl := Option.some.inj H
  go_enter Try.func66, Try.ntmps66
  go_wp2
  go_ret
  exact ⟨sqD, by repeat (first | exact zw.refl _ | apply zw.step)⟩
 ·rw [if_neg c2] at H
  have c2b0 : (a0 == 2) = false := beq_eq_false_iff_ne.mpr c2
  have c2b1 : (a0 != 2) = true := bne_iff_ne.mpr c2
  by_cases c3 : a0 = 3
  ·rw [if_pos c3] at H
   have c3b0 : (a0 == 3) = true := beq_iff_eq.mpr c3
   have c3b1 : (a0 != 3) = false := bne_eq_false_iff_eq.mpr c3
   clear c3
   obtain rfl := Option.some.inj H
   go_enter Try.func66, Try.ntmps66
   go_wp2
   go_ret
   exact ⟨sqD, by repeat (first | exact zw.refl _ | apply zw.step)⟩
  ·rw [if_neg c3] at H
   have c3b0 : (a0 == 3) = false := beq_eq_false_iff_ne.mpr c3
   have c3b1 : (a0 != 3) = true := bne_iff_ne.mpr c3
   by_cases c4 : a0 = 5
   ·rw [if_pos c4] at H
    have c4b0 : (a0 == 5) = true := beq_iff_eq.mpr c4
    have c4b1 : (a0 != 5) = false := bne_eq_false_iff_eq.mpr c4
    clear c4
    obtain rfl := Option.some.inj H
    go_enter Try.func66, Try.ntmps66
    go_wp2
    go_ret
    exact ⟨sqD, by repeat (first | exact zw.refl _ | apply zw.step)⟩
   ·rw [if_neg c4] at H
    have c4b0 : (a0 == 5) = false := beq_eq_false_iff_ne.mpr c4
    have c4b1 : (a0 != 5) = true := bne_iff_ne.mpr c4
    obtain rfl := Option.some.inj H
    go_enter Try.func66, Try.ntmps66
    go_wp2
    go_ret
    exact ⟨sqD, by repeat (first | exact zw.refl _ | apply zw.step)⟩

mutual
def zq.j0 : Nat → Bool → Int → Int → Int → List Int → Option (Bool)
 | 0, _, _, _, _, _ => none
 | k + 1, x30, x127000, x127001, x127002, x127003 => if x30 = true then (some false) else (zq.l0 k 0 x127000 x127001 x127002 x127003)
def zq.l0 : Nat → Int → Int → Int → Int → List Int → Option (Bool)
 | 0, _, _, _, _, _ => none
 | k + 1, x3, x127000, x127001, x127002, x127003 => if x3 < (x127003.length : Int) then (if 0 ≤ x3 then ((zL.f (rd x127003 x3) 0 (wrap64 (x127000 - 1))).bind fun t131 => (if t131 = true then (zq.l0 k (wrap64 (x3 + 1)) x127000 x127001 x127002 x127003) else (some false))) else (none)) else (some true)
end
def zq.f (k : Nat) (a0_0 : Int) (a0_1 : Int) (a0_2 : Int) (l0_3 : List Int) : Option (Bool) := (zW.f a0_0).bind fun t127 => (if t127 = true then ((zL.f a0_1 0 8).bind fun t128 => (if t128 = true then ((zL.f a0_2 0 8).bind fun t129 => (if t129 = true then (zq.j0 k ((l0_3.length : Int) != (wrap64 (a0_1 * a0_2))) a0_0 a0_1 a0_2 l0_3) else (zq.j0 k true a0_0 a0_1 a0_2 l0_3))) else (zq.j0 k true a0_0 a0_1 a0_2 l0_3))) else (zq.j0 k true a0_0 a0_1 a0_2 l0_3))
theorem zq.calls (k : Nat) (a0_0 : Int) (a0_1 : Int) (a0_2 : Int) (A0_3 : Option Addr) (c0_3 : Nat) (l0_3 : List Int) (r : Bool) (w : World) (hr0_3 : Kd.C (Kd.int .i64) w A0_3 l0_3.length l0_3) (hc0_3 : l0_3.length ≤ c0_3) (h : zq.f k a0_0 a0_1 a0_2 l0_3 = some r) :
  Calls Try.prog 37 #[.agg #[.int .i64 a0_0, .int .i64 a0_1, .int .i64 a0_2, .slice A0_3 l0_3.length c0_3]] w fun e w' => e = .returned (.bool r) ∧ Below w.heap.size w w' := by
 have hu27 := Try.underlying27
 have HR0_3 := Aside0.mk hr0_3
 have HC0_3 := Aside0.mk hc0_3
 clear hr0_3 hc0_3
 have HB := Aside0.mk (Below.refl w.heap.size w)
 have H : ((zW.f a0_0).bind fun t127 => (if t127 = true then ((zL.f a0_1 0 8).bind fun t128 => (if t128 = true then ((zL.f a0_2 0 8).bind fun t129 => (if t129 = true then (zq.j0 k ((l0_3.length : Int) != (wrap64 (a0_1 * a0_2))) a0_0 a0_1 a0_2 l0_3) else (zq.j0 k true a0_0 a0_1 a0_2 l0_3))) else (zq.j0 k true a0_0 a0_1 a0_2 l0_3))) else (zq.j0 k true a0_0 a0_1 a0_2 l0_3))) = some r := h
 clear h
 have HC2 := Aside0.mk H
 clear H
 go_enter Try.func37, Try.ntmps37
 go_upto_region 1 with (first | ((with_reducible refine zC (N := 1) rfl ?_); (try (refine vY (by rfl) ?_; dsimp only)); refine zD ?hg (N := 1) ?hd (cs := #[.int .i64 a0_0, .int .i64 a0_1, .int .i64 a0_2, .slice A0_3 l0_3.length c0_3]) (t := 27) ?hr ?_; (case hd => rfl); (case hg => rfl); (case hr => exact sqG); intro gb126 hg w3 hbox hb; have n0_ := Aside0.mk (zg sqB hb); have n1_ := Aside0.mk (hbox); have n2_ := Aside0.mk ((sqS hg : w.heap.size ≤ gb126)); have n3_ := Aside0.mk ((sqS hg : w.heap.size ≤ gb126)); clear HB; have HB := n0_; have BK126 := n1_; have GW126 := n2_; have GE126 := n3_; clear n0_ n1_ n2_ n3_; clear hb hbox hg))
 repeat (go_quiet (first | ((with_reducible refine zC (N := 1) rfl ?_); (try (refine vY (by rfl) ?_; dsimp only)); refine zD ?hg (N := 1) ?hd (cs := #[.int .i64 a0_0, .int .i64 a0_1, .int .i64 a0_2, .slice A0_3 l0_3.length c0_3]) (t := 27) ?hr ?_; (case hd => rfl); (case hg => rfl); (case hr => exact sqG); intro gb126 hg w3 hbox hb; have n0_ := Aside0.mk (zg sqB hb); have n1_ := Aside0.mk (hbox); have n2_ := Aside0.mk ((sqS hg : w.heap.size ≤ gb126)); have n3_ := Aside0.mk ((sqS hg : w.heap.size ≤ gb126)); clear HB; have HB := n0_; have BK126 := n1_; have GW126 := n2_; have GE126 := n3_; clear n0_ n1_ n2_ n3_; clear hb hbox hg)); go_upto_region 1 with (first | ((with_reducible refine zC (N := 1) rfl ?_); (try (refine vY (by rfl) ?_; dsimp only)); refine zD ?hg (N := 1) ?hd (cs := #[.int .i64 a0_0, .int .i64 a0_1, .int .i64 a0_2, .slice A0_3 l0_3.length c0_3]) (t := 27) ?hr ?_; (case hd => rfl); (case hg => rfl); (case hr => exact sqG); intro gb126 hg w3 hbox hb; have n0_ := Aside0.mk (zg sqB hb); have n1_ := Aside0.mk (hbox); have n2_ := Aside0.mk ((sqS hg : w.heap.size ≤ gb126)); have n3_ := Aside0.mk ((sqS hg : w.heap.size ≤ gb126)); clear HB; have HB := n0_; have BK126 := n1_; have GW126 := n2_; have GE126 := n3_; clear n0_ n1_ n2_ n3_; clear hb hbox hg)))
 (try simp only [Act.put, List.setIfInBounds_toArray, List.set_cons_zero, List.set_cons_succ])
 go_cut [30] (fun v30 wc => ∃ (kq : Nat) (x30_1 : Bool), v30 = .bool x30_1 ∧ Aside0 (zq.j0 kq x30_1 a0_0 a0_1 a0_2 l0_3 = some r) ∧ Aside0 (kq ≤ k) ∧ Aside0 (wc.heap[gb126]? = some (.cells #[.int .i64 a0_0, .int .i64 a0_1, .int .i64 a0_2, (.slice A0_3 l0_3.length c0_3)] 27 (0, 0))) ∧ Aside0 (Below w.heap.size w wc))
 case first =>
  have H := HC2.out
  clear HC2
  replace H := Option.bind_eq_some_iff.mp H
  obtain ⟨t127, A40, H⟩ := H
  replace H : (if t127 = true then ((zL.f a0_1 0 8).bind fun t128 => (if t128 = true then ((zL.f a0_2 0 8).bind fun t129 => (if t129 = true then (zq.j0 k ((l0_3.length : Int) != (wrap64 (a0_1 * a0_2))) a0_0 a0_1 a0_2 l0_3) else (zq.j0 k true a0_0 a0_1 a0_2 l0_3))) else (zq.j0 k true a0_0 a0_1 a0_2 l0_3))) else (zq.j0 k true a0_0 a0_1 a0_2 l0_3)) = some r := H
  have A4 := Aside0.mk A40
  clear A40
  by_cases c5 : t127 = true
  ·subst c5
   have H1 : ((zL.f a0_1 0 8).bind fun t128 => (if t128 = true then ((zL.f a0_2 0 8).bind fun t129 => (if t129 = true then (zq.j0 k ((l0_3.length : Int) != (wrap64 (a0_1 * a0_2))) a0_0 a0_1 a0_2 l0_3) else (zq.j0 k true a0_0 a0_1 a0_2 l0_3))) else (zq.j0 k true a0_0 a0_1 a0_2 l0_3))) = some r := by rw [if_pos rfl] at H; exact H
   clear H
   have H := H1
   clear H1
   replace H := Option.bind_eq_some_iff.mp H
   obtain ⟨t128, A60, H⟩ := H
   replace H : (if t128 = true then ((zL.f a0_2 0 8).bind fun t129 => (if t129 = true then (zq.j0 k ((l0_3.length : Int) != (wrap64 (a0_1 * a0_2))) a0_0 a0_1 a0_2 l0_3) else (zq.j0 k true a0_0 a0_1 a0_2 l0_3))) else (zq.j0 k true a0_0 a0_1 a0_2 l0_3)) = some r := H
   have A6 := Aside0.mk A60
   clear A60
   by_cases c7 : t128 = true
   ·subst c7
    have H1 : ((zL.f a0_2 0 8).bind fun t129 => (if t129 = true then (zq.j0 k ((l0_3.length : Int) != (wrap64 (a0_1 * a0_2))) a0_0 a0_1 a0_2 l0_3) else (zq.j0 k true a0_0 a0_1 a0_2 l0_3))) = some r := by rw [if_pos rfl] at H; exact H
    clear H
    have H := H1
    clear H1
    replace H := Option.bind_eq_some_iff.mp H
    obtain ⟨t129, A80, H⟩ := H
    replace H : (if t129 = true then (zq.j0 k ((l0_3.length : Int) != (wrap64 (a0_1 * a0_2))) a0_0 a0_1 a0_2 l0_3) else (zq.j0 k true a0_0 a0_1 a0_2 l0_3)) = some r := H
    have A8 := Aside0.mk A80
    clear A80
    by_cases c9 : t129 = true
    ·subst c9
     have H1 : (zq.j0 k ((l0_3.length : Int) != (wrap64 (a0_1 * a0_2))) a0_0 a0_1 a0_2 l0_3) = some r := by rw [if_pos rfl] at H; exact H
     clear H
     have H := H1
     clear H1
     have H' := Aside0.mk H
     clear H
     have hcz10_0 : w3.cell? ⟨gb126, 0, none⟩ = some (.int .i64 a0_0) := (zb BK126.out 0).trans rfl
     have hcz10_1 : w3.cell? ⟨gb126, 1, none⟩ = some (.int .i64 a0_1) := (zb BK126.out 1).trans rfl
     have hcz10_2 : w3.cell? ⟨gb126, 2, none⟩ = some (.int .i64 a0_2) := (zb BK126.out 2).trans rfl
     have hcz10_3 : w3.cell? ⟨gb126, 3, none⟩ = some (.slice A0_3 l0_3.length c0_3) := (zb BK126.out 3).trans rfl
     have hfz10_0 := za BK126.out 0; have hfz10_1 := za BK126.out 1; have hfz10_2 := za BK126.out 2; have hfz10_3 := za BK126.out 3
     go_wp2_with (first | (go_at_call 66; (try simp only [zf, zh]); (with_reducible refine (zW.calls a0_0 true _ A4.out).mono ?_); rintro e w' ⟨rfl, ⟨nd, rfl⟩⟩; (try first | exact ⟨rfl, _, World.drewN_drewN _ _ _⟩ | exact ⟨rfl, _, Eq.trans (World.drewN_drewN _ _ _) (congrArg (World.drewN _) (Nat.add_assoc _ _ _))⟩)) | (go_at_call 43; (try simp only [zf, zh]); (with_reducible refine (zL.calls a0_1 0 8 true _ A6.out).mono ?_); rintro e w' ⟨rfl, ⟨nd, rfl⟩⟩; (try first | exact ⟨rfl, _, World.drewN_drewN _ _ _⟩ | exact ⟨rfl, _, Eq.trans (World.drewN_drewN _ _ _) (congrArg (World.drewN _) (Nat.add_assoc _ _ _))⟩)) | (go_at_call 43; (try simp only [zf, zh]); (with_reducible refine (zL.calls a0_2 0 8 true _ A8.out).mono ?_); rintro e w' ⟨rfl, ⟨nd, rfl⟩⟩; (try first | exact ⟨rfl, _, World.drewN_drewN _ _ _⟩ | exact ⟨rfl, _, Eq.trans (World.drewN_drewN _ _ _) (congrArg (World.drewN _) (Nat.add_assoc _ _ _))⟩)))
     repeat (go_quiet (first | (go_at_call 66; (try simp only [zf, zh]); (with_reducible refine (zW.calls a0_0 true _ A4.out).mono ?_); rintro e w' ⟨rfl, ⟨nd, rfl⟩⟩; (try first | exact ⟨rfl, _, World.drewN_drewN _ _ _⟩ | exact ⟨rfl, _, Eq.trans (World.drewN_drewN _ _ _) (congrArg (World.drewN _) (Nat.add_assoc _ _ _))⟩)) | (go_at_call 43; (try simp only [zf, zh]); (with_reducible refine (zL.calls a0_1 0 8 true _ A6.out).mono ?_); rintro e w' ⟨rfl, ⟨nd, rfl⟩⟩; (try first | exact ⟨rfl, _, World.drewN_drewN _ _ _⟩ | exact ⟨rfl, _, Eq.trans (World.drewN_drewN _ _ _) (congrArg (World.drewN _) (Nat.add_assoc _ _ _))⟩)) | (go_at_call 43; (try simp only [zf, zh]); (with_reducible refine (zL.calls a0_2 0 8 true _ A8.out).mono ?_); rintro e w' ⟨rfl, ⟨nd, rfl⟩⟩; (try first | exact ⟨rfl, _, World.drewN_drewN _ _ _⟩ | exact ⟨rfl, _, Eq.trans (World.drewN_drewN _ _ _) (congrArg (World.drewN _) (Nat.add_assoc _ _ _))⟩))); try go_wp2_with (first | (go_at_call 66; (try simp only [zf, zh]); (with_reducible refine (zW.calls a0_0 true _ A4.out).mono ?_); rintro e w' ⟨rfl, ⟨nd, rfl⟩⟩; (try first | exact ⟨rfl, _, World.drewN_drewN _ _ _⟩ | exact ⟨rfl, _, Eq.trans (World.drewN_drewN _ _ _) (congrArg (World.drewN _) (Nat.add_assoc _ _ _))⟩)) | (go_at_call 43; (try simp only [zf, zh]); (with_reducible refine (zL.calls a0_1 0 8 true _ A6.out).mono ?_); rintro e w' ⟨rfl, ⟨nd, rfl⟩⟩; (try first | exact ⟨rfl, _, World.drewN_drewN _ _ _⟩ | exact ⟨rfl, _, Eq.trans (World.drewN_drewN _ _ _) (congrArg (World.drewN _) (Nat.add_assoc _ _ _))⟩)) | (go_at_call 43; (try simp only [zf, zh]); (with_reducible refine (zL.calls a0_2 0 8 true _ A8.out).mono ?_); rintro e w' ⟨rfl, ⟨nd, rfl⟩⟩; (try first | exact ⟨rfl, _, World.drewN_drewN _ _ _⟩ | exact ⟨rfl, _, Eq.trans (World.drewN_drewN _ _ _) (congrArg (World.drewN _) (Nat.add_assoc _ _ _))⟩))))
     go_meet
     case rel => exact ⟨_, (((l0_3.length : Int) != (wrap64 (a0_1 * a0_2)))), (by first | rfl | (simp only [zf, zh]; done) | (simp; done) | (simp [*]; done)), H', ⟨by first | omega | exact Nat.le_refl _⟩, ⟨sqK BK126.out⟩, ⟨sqB⟩⟩
    ·replace c9 := Bool.eq_false_iff.mpr c9
     subst c9
     have H1 : (zq.j0 k true a0_0 a0_1 a0_2 l0_3) = some r := by rw [if_neg (show ¬ (false = true) by decide)] at H; exact H
     clear H
     have H := H1
     clear H1
     have H' := Aside0.mk H
     clear H
     have hcz11_0 : w3.cell? ⟨gb126, 0, none⟩ = some (.int .i64 a0_0) := (zb BK126.out 0).trans rfl
     have hcz11_1 : w3.cell? ⟨gb126, 1, none⟩ = some (.int .i64 a0_1) := (zb BK126.out 1).trans rfl
     have hcz11_2 : w3.cell? ⟨gb126, 2, none⟩ = some (.int .i64 a0_2) := (zb BK126.out 2).trans rfl
     have hcz11_3 : w3.cell? ⟨gb126, 3, none⟩ = some (.slice A0_3 l0_3.length c0_3) := (zb BK126.out 3).trans rfl
     have hfz11_0 := za BK126.out 0; have hfz11_1 := za BK126.out 1; have hfz11_2 := za BK126.out 2; have hfz11_3 := za BK126.out 3
     go_wp2_with (first | (go_at_call 66; (try simp only [zf, zh]); (with_reducible refine (zW.calls a0_0 true _ A4.out).mono ?_); rintro e w' ⟨rfl, ⟨nd, rfl⟩⟩; (try first | exact ⟨rfl, _, World.drewN_drewN _ _ _⟩ | exact ⟨rfl, _, Eq.trans (World.drewN_drewN _ _ _) (congrArg (World.drewN _) (Nat.add_assoc _ _ _))⟩)) | (go_at_call 43; (try simp only [zf, zh]); (with_reducible refine (zL.calls a0_1 0 8 true _ A6.out).mono ?_); rintro e w' ⟨rfl, ⟨nd, rfl⟩⟩; (try first | exact ⟨rfl, _, World.drewN_drewN _ _ _⟩ | exact ⟨rfl, _, Eq.trans (World.drewN_drewN _ _ _) (congrArg (World.drewN _) (Nat.add_assoc _ _ _))⟩)) | (go_at_call 43; (try simp only [zf, zh]); (with_reducible refine (zL.calls a0_2 0 8 false _ A8.out).mono ?_); rintro e w' ⟨rfl, ⟨nd, rfl⟩⟩; (try first | exact ⟨rfl, _, World.drewN_drewN _ _ _⟩ | exact ⟨rfl, _, Eq.trans (World.drewN_drewN _ _ _) (congrArg (World.drewN _) (Nat.add_assoc _ _ _))⟩)))
     repeat (go_quiet (first | (go_at_call 66; (try simp only [zf, zh]); (with_reducible refine (zW.calls a0_0 true _ A4.out).mono ?_); rintro e w' ⟨rfl, ⟨nd, rfl⟩⟩; (try first | exact ⟨rfl, _, World.drewN_drewN _ _ _⟩ | exact ⟨rfl, _, Eq.trans (World.drewN_drewN _ _ _) (congrArg (World.drewN _) (Nat.add_assoc _ _ _))⟩)) | (go_at_call 43; (try simp only [zf, zh]); (with_reducible refine (zL.calls a0_1 0 8 true _ A6.out).mono ?_); rintro e w' ⟨rfl, ⟨nd, rfl⟩⟩; (try first | exact ⟨rfl, _, World.drewN_drewN _ _ _⟩ | exact ⟨rfl, _, Eq.trans (World.drewN_drewN _ _ _) (congrArg (World.drewN _) (Nat.add_assoc _ _ _))⟩)) | (go_at_call 43; (try simp only [zf, zh]); (with_reducible refine (zL.calls a0_2 0 8 false _ A8.out).mono ?_); rintro e w' ⟨rfl, ⟨nd, rfl⟩⟩; (try first | exact ⟨rfl, _, World.drewN_drewN _ _ _⟩ | exact ⟨rfl, _, Eq.trans (World.drewN_drewN _ _ _) (congrArg (World.drewN _) (Nat.add_assoc _ _ _))⟩))); try go_wp2_with (first | (go_at_call 66; (try simp only [zf, zh]); (with_reducible refine (zW.calls a0_0 true _ A4.out).mono ?_); rintro e w' ⟨rfl, ⟨nd, rfl⟩⟩; (try first | exact ⟨rfl, _, World.drewN_drewN _ _ _⟩ | exact ⟨rfl, _, Eq.trans (World.drewN_drewN _ _ _) (congrArg (World.drewN _) (Nat.add_assoc _ _ _))⟩)) | (go_at_call 43; (try simp only [zf, zh]); (with_reducible refine (zL.calls a0_1 0 8 true _ A6.out).mono ?_); rintro e w' ⟨rfl, ⟨nd, rfl⟩⟩; (try first | exact ⟨rfl, _, World.drewN_drewN _ _ _⟩ | exact ⟨rfl, _, Eq.trans (World.drewN_drewN _ _ _) (congrArg (World.drewN _) (Nat.add_assoc _ _ _))⟩)) | (go_at_call 43; (try simp only [zf, zh]); (with_reducible refine (zL.calls a0_2 0 8 false _ A8.out).mono ?_); rintro e w' ⟨rfl, ⟨nd, rfl⟩⟩; (try first | exact ⟨rfl, _, World.drewN_drewN _ _ _⟩ | exact ⟨rfl, _, Eq.trans (World.drewN_drewN _ _ _) (congrArg (World.drewN _) (Nat.add_assoc _ _ _))⟩))))
     go_meet
     case rel => exact ⟨_, (true), (sqD), H', ⟨by first | omega | exact Nat.le_refl _⟩, ⟨sqK BK126.out⟩, ⟨sqB⟩⟩
   ·replace c7 := Bool.eq_false_iff.mpr c7
    subst c7
    have H1 : (zq.j0 k true a0_0 a0_1 a0_2 l0_3) = some r := by rw [if_neg (show ¬ (false = true) by decide)] at H; exact H
    clear H
    have H := H1
    clear H1
    have H' := Aside0.mk H
    clear H
    have hcz12_0 : w3.cell? ⟨gb126, 0, none⟩ = some (.int .i64 a0_0) := (zb BK126.out 0).trans rfl
    have hcz12_1 : w3.cell? ⟨gb126, 1, none⟩ = some (.int .i64 a0_1) := (zb BK126.out 1).trans rfl
    have hcz12_2 : w3.cell? ⟨gb126, 2, none⟩ = some (.int .i64 a0_2) := (zb BK126.out 2).trans rfl
    have hcz12_3 : w3.cell? ⟨gb126, 3, none⟩ = some (.slice A0_3 l0_3.length c0_3) := (zb BK126.out 3).trans rfl
    have hfz12_0 := za BK126.out 0; have hfz12_1 := za BK126.out 1; have hfz12_2 := za BK126.out 2; have hfz12_3 := za BK126.out 3
    go_wp2_with (first | (go_at_call 66; (try simp only [zf, zh]); (with_reducible refine (zW.calls a0_0 true _ A4.out).mono ?_); rintro e w' ⟨rfl, ⟨nd, rfl⟩⟩; (try first | exact ⟨rfl, _, World.drewN_drewN _ _ _⟩ | exact ⟨rfl, _, Eq.trans (World.drewN_drewN _ _ _) (congrArg (World.drewN _) (Nat.add_assoc _ _ _))⟩)) | (go_at_call 43; (try simp only [zf, zh]); (with_reducible refine (zL.calls a0_1 0 8 false _ A6.out).mono ?_); rintro e w' ⟨rfl, ⟨nd, rfl⟩⟩; (try first | exact ⟨rfl, _, World.drewN_drewN _ _ _⟩ | exact ⟨rfl, _, Eq.trans (World.drewN_drewN _ _ _) (congrArg (World.drewN _) (Nat.add_assoc _ _ _))⟩)))
    repeat (go_quiet (first | (go_at_call 66; (try simp only [zf, zh]); (with_reducible refine (zW.calls a0_0 true _ A4.out).mono ?_); rintro e w' ⟨rfl, ⟨nd, rfl⟩⟩; (try first | exact ⟨rfl, _, World.drewN_drewN _ _ _⟩ | exact ⟨rfl, _, Eq.trans (World.drewN_drewN _ _ _) (congrArg (World.drewN _) (Nat.add_assoc _ _ _))⟩)) | (go_at_call 43; (try simp only [zf, zh]); (with_reducible refine (zL.calls a0_1 0 8 false _ A6.out).mono ?_); rintro e w' ⟨rfl, ⟨nd, rfl⟩⟩; (try first | exact ⟨rfl, _, World.drewN_drewN _ _ _⟩ | exact ⟨rfl, _, Eq.trans (World.drewN_drewN _ _ _) (congrArg (World.drewN _) (Nat.add_assoc _ _ _))⟩))); try go_wp2_with (first | (go_at_call 66; (try simp only [zf, zh]); (with_reducible refine (zW.calls a0_0 true _ A4.out).mono ?_); rintro e w' ⟨rfl, ⟨nd, rfl⟩⟩; (try first | exact ⟨rfl, _, World.drewN_drewN _ _ _⟩ | exact ⟨rfl, _, Eq.trans (World.drewN_drewN _ _ _) (congrArg (World.drewN _) (Nat.add_assoc _ _ _))⟩)) | (go_at_call 43; (try simp only [zf, zh]); (with_reducible refine (zL.calls a0_1 0 8 false _ A6.out).mono ?_); rintro e w' ⟨rfl, ⟨nd, rfl⟩⟩; (try first | exact ⟨rfl, _, World.drewN_drewN _ _ _⟩ | exact ⟨rfl, _, Eq.trans (World.drewN_drewN _ _ _) (congrArg (World.drewN _) (Nat.add_assoc _ _ _))⟩))))
    go_meet
    case rel => exact ⟨_, (true), (sqD), H', ⟨by first | omega | exact Nat.le_refl _⟩, ⟨sqK BK126.out⟩, ⟨sqB⟩⟩
  ·replace c5 := Bool.eq_false_iff.mpr c5
   subst c5
   have H1 : (zq.j0 k true a0_0 a0_1 a0_2 l0_3) = some r := by rw [if_neg (show ¬ (false = true) by decide)] at H; exact H
   clear H
   have H := H1
   clear H1
   have H' := Aside0.mk H
   clear H
   have hcz13_0 : w3.cell? ⟨gb126, 0, none⟩ = some (.int .i64 a0_0) := (zb BK126.out 0).trans rfl
   have hcz13_1 : w3.cell? ⟨gb126, 1, none⟩ = some (.int .i64 a0_1) := (zb BK126.out 1).trans rfl
   have hcz13_2 : w3.cell? ⟨gb126, 2, none⟩ = some (.int .i64 a0_2) := (zb BK126.out 2).trans rfl
   have hcz13_3 : w3.cell? ⟨gb126, 3, none⟩ = some (.slice A0_3 l0_3.length c0_3) := (zb BK126.out 3).trans rfl
   have hfz13_0 := za BK126.out 0; have hfz13_1 := za BK126.out 1; have hfz13_2 := za BK126.out 2; have hfz13_3 := za BK126.out 3
   go_wp2_with (first | (go_at_call 66; (try simp only [zf, zh]); (with_reducible refine (zW.calls a0_0 false _ A4.out).mono ?_); rintro e w' ⟨rfl, ⟨nd, rfl⟩⟩; (try first | exact ⟨rfl, _, World.drewN_drewN _ _ _⟩ | exact ⟨rfl, _, Eq.trans (World.drewN_drewN _ _ _) (congrArg (World.drewN _) (Nat.add_assoc _ _ _))⟩)))
   repeat (go_quiet (first | (go_at_call 66; (try simp only [zf, zh]); (with_reducible refine (zW.calls a0_0 false _ A4.out).mono ?_); rintro e w' ⟨rfl, ⟨nd, rfl⟩⟩; (try first | exact ⟨rfl, _, World.drewN_drewN _ _ _⟩ | exact ⟨rfl, _, Eq.trans (World.drewN_drewN _ _ _) (congrArg (World.drewN _) (Nat.add_assoc _ _ _))⟩))); try go_wp2_with (first | (go_at_call 66; (try simp only [zf, zh]); (with_reducible refine (zW.calls a0_0 false _ A4.out).mono ?_); rintro e w' ⟨rfl, ⟨nd, rfl⟩⟩; (try first | exact ⟨rfl, _, World.drewN_drewN _ _ _⟩ | exact ⟨rfl, _, Eq.trans (World.drewN_drewN _ _ _) (congrArg (World.drewN _) (Nat.add_assoc _ _ _))⟩))))
   go_meet
   case rel => exact ⟨_, (true), (sqD), H', ⟨by first | omega | exact Nat.le_refl _⟩, ⟨sqK BK126.out⟩, ⟨sqB⟩⟩
 case rest =>
  clear HC2
  try clear p2
  try clear c3
  try clear c5
  try clear p6
  try clear c7
  try clear c9
  try clear hcz10_0
  try clear hcz10_1
  try clear hcz10_2
  try clear hcz10_3
  try clear hcz11_0
  try clear hcz11_1
  try clear hcz11_2
  try clear hcz11_3
  try clear hcz12_0
  try clear hcz12_1
  try clear hcz12_2
  try clear hcz12_3
  try clear hcz13_0
  try clear hcz13_1
  try clear hcz13_2
  try clear hcz13_3
  try clear hfz10_0
  try clear hfz10_1
  try clear hfz10_2
  try clear hfz10_3
  try clear hfz11_0
  try clear hfz11_1
  try clear hfz11_2
  try clear hfz11_3
  try clear hfz12_0
  try clear hfz12_1
  try clear hfz12_2
  try clear hfz12_3
  try clear hfz13_0
  try clear hfz13_1
  try clear hfz13_2
  try clear hfz13_3
  obtain ⟨kq, x30_1, rfl, HA, HJ1, BK126, HB⟩ := hcut
  cases kq with
  | zero => exact absurd HA.out (by simp [zq.j0])
  | succ kj1 =>
   have H := HA.out
   clear HA
   simp only [zq.j0] at H
   by_cases c14 : x30_1 = true
   ·subst c14
    have H1 : (some false) = some r := by rw [if_pos rfl] at H; exact H
    clear H
    have H := H1
    clear H1
    obtain rfl := Option.some.inj H
    go_wp2
    repeat (go_quiet (fail); try go_wp2)
    go_ret
    exact ⟨sqE, sqB⟩
   ·replace c14 := Bool.eq_false_iff.mpr c14
    subst c14
    have H1 : (zq.l0 kj1 0 a0_0 a0_1 a0_2 l0_3) = some r := by rw [if_neg (show ¬ (false = true) by decide)] at H; exact H
    clear H
    have H := H1
    clear H1
    have H' := Aside0.mk H
    clear H
    go_wp2
    repeat (go_quiet (fail); try go_wp2)
    go_loopg [3] kj1 (fun kq v3 w' => ∃ (x3_2 : Int), v3 = .int .i64 x3_2 ∧ Aside0 (zq.l0 kq x3_2 a0_0 a0_1 a0_2 l0_3 = some r) ∧ Aside0 (kq ≤ kj1) ∧ Aside0 (w'.heap[gb126]? = some (.cells #[.int .i64 a0_0, .int .i64 a0_1, .int .i64 a0_2, (.slice A0_3 l0_3.length c0_3)] 27 (0, 0))) ∧ Aside0 (Below w.heap.size w w'))
    case atStart => exact ⟨(0), (sqD), H', ⟨Nat.le_refl _⟩, ⟨sqK BK126.out⟩, ⟨sqB⟩⟩
    case round =>
     clear H'
     try clear c1
     try clear p2
     try clear c3
     try clear c5
     try clear p6
     try clear c7
     try clear c9
     try clear c14
     try clear hcz10_0
     try clear hcz10_1
     try clear hcz10_2
     try clear hcz10_3
     try clear hcz11_0
     try clear hcz11_1
     try clear hcz11_2
     try clear hcz11_3
     try clear hcz12_0
     try clear hcz12_1
     try clear hcz12_2
     try clear hcz12_3
     try clear hcz13_0
     try clear hcz13_1
     try clear hcz13_2
     try clear hcz13_3
     try clear hfz10_0
     try clear hfz10_1
     try clear hfz10_2
     try clear hfz10_3
     try clear hfz11_0
     try clear hfz11_1
     try clear hfz11_2
     try clear hfz11_3
     try clear hfz12_0
     try clear hfz12_1
     try clear hfz12_2
     try clear hfz12_3
     try clear hfz13_0
     try clear hfz13_1
     try clear hfz13_2
     try clear hfz13_3
     try clear p2
     try clear p6
     obtain ⟨x3_2, rfl, HA, HK2, BK126, HB⟩ := hrel
     cases gk with
     | zero => exact absurd HA.out (by simp [zq.l0])
     | succ k2 =>
      have H := HA.out
      clear HA
      simp only [zq.l0] at H
      by_cases c15 : x3_2 < (l0_3.length : Int)
      ·rw [if_pos c15] at H
       have c15b0 : decide (x3_2 < (l0_3.length : Int)) = true := decide_eq_true c15
       clear c15
       by_cases c16 : 0 ≤ x3_2
       ·rw [if_pos c16] at H
        have c16b0 : decide (0 ≤ x3_2) = true := decide_eq_true c16
        clear c16
        replace H := Option.bind_eq_some_iff.mp H
        obtain ⟨t131, A170, H⟩ := H
        replace H : (if t131 = true then (zq.l0 k2 (wrap64 (x3_2 + 1)) a0_0 a0_1 a0_2 l0_3) else (some false)) = some r := H
        have A17 := Aside0.mk A170
        clear A170
        by_cases c18 : t131 = true
        ·subst c18
         have H1 : (zq.l0 k2 (wrap64 (x3_2 + 1)) a0_0 a0_1 a0_2 l0_3) = some r := by rw [if_pos rfl] at H; exact H
         clear H
         have H := H1
         clear H1
         have H' := Aside0.mk H
         clear H
         have hcz19_0 : wr.cell? ⟨gb126, 0, none⟩ = some (.int .i64 a0_0) := (zb BK126.out 0).trans rfl
         have hcz19_1 : wr.cell? ⟨gb126, 1, none⟩ = some (.int .i64 a0_1) := (zb BK126.out 1).trans rfl
         have hcz19_2 : wr.cell? ⟨gb126, 2, none⟩ = some (.int .i64 a0_2) := (zb BK126.out 2).trans rfl
         have hcz19_3 : wr.cell? ⟨gb126, 3, none⟩ = some (.slice A0_3 l0_3.length c0_3) := (zb BK126.out 3).trans rfl
         have hfz19_0 := za BK126.out 0; have hfz19_1 := za BK126.out 1; have hfz19_2 := za BK126.out 2; have hfz19_3 := za BK126.out 3
         have p130 : 0 ≤ (x3_2 : Int) := of_decide_eq_true sqA
         have q130 : x3_2 < (l0_3.length : Int) := of_decide_eq_true sqA
         obtain ⟨ad130, e130, hx130_0⟩ := Kd.qh HR0_3.out x3_2 p130 q130
         cases e130
         replace hx130_0 := (HB.out.cell (World.block_lt_of_cell? w _ hx130_0)).trans hx130_0
         replace p130 := eq_true p130
         replace q130 := eq_true q130
         go_wp2_with (first | (go_at_call 43; (try simp only [zf, zh]); (with_reducible refine (zL.calls (rd l0_3 x3_2) 0 (wrap64 (a0_0 - 1)) true _ A17.out).mono ?_); rintro e w' ⟨rfl, ⟨nd, rfl⟩⟩; (try first | exact ⟨rfl, _, World.drewN_drewN _ _ _⟩ | exact ⟨rfl, _, Eq.trans (World.drewN_drewN _ _ _) (congrArg (World.drewN _) (Nat.add_assoc _ _ _))⟩)))
         repeat (go_quiet (first | (go_at_call 43; (try simp only [zf, zh]); (with_reducible refine (zL.calls (rd l0_3 x3_2) 0 (wrap64 (a0_0 - 1)) true _ A17.out).mono ?_); rintro e w' ⟨rfl, ⟨nd, rfl⟩⟩; (try first | exact ⟨rfl, _, World.drewN_drewN _ _ _⟩ | exact ⟨rfl, _, Eq.trans (World.drewN_drewN _ _ _) (congrArg (World.drewN _) (Nat.add_assoc _ _ _))⟩))); try go_wp2_with (first | (go_at_call 43; (try simp only [zf, zh]); (with_reducible refine (zL.calls (rd l0_3 x3_2) 0 (wrap64 (a0_0 - 1)) true _ A17.out).mono ?_); rintro e w' ⟨rfl, ⟨nd, rfl⟩⟩; (try first | exact ⟨rfl, _, World.drewN_drewN _ _ _⟩ | exact ⟨rfl, _, Eq.trans (World.drewN_drewN _ _ _) (congrArg (World.drewN _) (Nat.add_assoc _ _ _))⟩))))
         go_roundg k2
         case measure => have := HJ1.out; have := HK2.out; omega
         case rel => exact ⟨(wrap64 (x3_2 + 1)), (sqD), H', ⟨by have := HJ1.out; have := HK2.out; omega⟩, ⟨sqK BK126.out⟩, ⟨sqB⟩⟩
        ·replace c18 := Bool.eq_false_iff.mpr c18
         subst c18
         have H1 : (some false) = some r := by rw [if_neg (show ¬ (false = true) by decide)] at H; exact H
         clear H
         have H := H1
         clear H1
         obtain rfl := Option.some.inj H
         have hcz20_0 : wr.cell? ⟨gb126, 0, none⟩ = some (.int .i64 a0_0) := (zb BK126.out 0).trans rfl
         have hcz20_1 : wr.cell? ⟨gb126, 1, none⟩ = some (.int .i64 a0_1) := (zb BK126.out 1).trans rfl
         have hcz20_2 : wr.cell? ⟨gb126, 2, none⟩ = some (.int .i64 a0_2) := (zb BK126.out 2).trans rfl
         have hcz20_3 : wr.cell? ⟨gb126, 3, none⟩ = some (.slice A0_3 l0_3.length c0_3) := (zb BK126.out 3).trans rfl
         have hfz20_0 := za BK126.out 0; have hfz20_1 := za BK126.out 1; have hfz20_2 := za BK126.out 2; have hfz20_3 := za BK126.out 3
         have p130 : 0 ≤ (x3_2 : Int) := of_decide_eq_true sqA
         have q130 : x3_2 < (l0_3.length : Int) := of_decide_eq_true sqA
         obtain ⟨ad130, e130, hx130_0⟩ := Kd.qh HR0_3.out x3_2 p130 q130
         cases e130
         replace hx130_0 := (HB.out.cell (World.block_lt_of_cell? w _ hx130_0)).trans hx130_0
         replace p130 := eq_true p130
         replace q130 := eq_true q130
         go_wp2_with (first | (go_at_call 43; (try simp only [zf, zh]); (with_reducible refine (zL.calls (rd l0_3 x3_2) 0 (wrap64 (a0_0 - 1)) false _ A17.out).mono ?_); rintro e w' ⟨rfl, ⟨nd, rfl⟩⟩; (try first | exact ⟨rfl, _, World.drewN_drewN _ _ _⟩ | exact ⟨rfl, _, Eq.trans (World.drewN_drewN _ _ _) (congrArg (World.drewN _) (Nat.add_assoc _ _ _))⟩)))
         repeat (go_quiet (first | (go_at_call 43; (try simp only [zf, zh]); (with_reducible refine (zL.calls (rd l0_3 x3_2) 0 (wrap64 (a0_0 - 1)) false _ A17.out).mono ?_); rintro e w' ⟨rfl, ⟨nd, rfl⟩⟩; (try first | exact ⟨rfl, _, World.drewN_drewN _ _ _⟩ | exact ⟨rfl, _, Eq.trans (World.drewN_drewN _ _ _) (congrArg (World.drewN _) (Nat.add_assoc _ _ _))⟩))); try go_wp2_with (first | (go_at_call 43; (try simp only [zf, zh]); (with_reducible refine (zL.calls (rd l0_3 x3_2) 0 (wrap64 (a0_0 - 1)) false _ A17.out).mono ?_); rintro e w' ⟨rfl, ⟨nd, rfl⟩⟩; (try first | exact ⟨rfl, _, World.drewN_drewN _ _ _⟩ | exact ⟨rfl, _, Eq.trans (World.drewN_drewN _ _ _) (congrArg (World.drewN _) (Nat.add_assoc _ _ _))⟩))))
         go_ret
         exact ⟨sqE, sqB⟩
       ·rw [if_neg c16] at H
        exact absurd H (by simp)
      ·rw [if_neg c15] at H
       have c15b0 : decide (x3_2 < (l0_3.length : Int)) = false := decide_eq_false c15
       clear c15
       obtain rfl := Option.some.inj H
       have hcz21_0 : wr.cell? ⟨gb126, 0, none⟩ = some (.int .i64 a0_0) := (zb BK126.out 0).trans rfl
       have hcz21_1 : wr.cell? ⟨gb126, 1, none⟩ = some (.int .i64 a0_1) := (zb BK126.out 1).trans rfl
       have hcz21_2 : wr.cell? ⟨gb126, 2, none⟩ = some (.int .i64 a0_2) := (zb BK126.out 2).trans rfl
       have hcz21_3 : wr.cell? ⟨gb126, 3, none⟩ = some (.slice A0_3 l0_3.length c0_3) := (zb BK126.out 3).trans rfl
       have hfz21_0 := za BK126.out 0; have hfz21_1 := za BK126.out 1; have hfz21_2 := za BK126.out 2; have hfz21_3 := za BK126.out 3
       go_wp2
       repeat (go_quiet (fail); try go_wp2)
       go_ret
       exact ⟨sqE, sqB⟩

def qx.f (a0 : Int) : Option (Bool) := if a0 = 2 then (some true) else (if a0 = 3 then (some true) else (if a0 = 5 then (some true) else (some (a0 == 7))))
theorem qx.calls (a0 : Int) (r : Bool) (w : World) (h : qx.f a0 = some r) :
  Calls Try.prog 67 #[.int .i64 a0] w fun e w' => e = .returned (.bool r) ∧ zw w w' := by
 have H : (if a0 = 2 then (some true) else (if a0 = 3 then (some true) else (if a0 = 5 then (some true) else (some (a0 == 7))))) = some r := h
 clear h
 by_cases c2 : a0 = 2
 ·rw [if_pos c2] at H
  have c2b0 : (a0 == 2) = true := beq_iff_eq.mpr c2
  have c2b1 : (a0 != 2) = false := bne_eq_false_iff_eq.mpr c2
  clear c2
  obtain rfl := Option.some.inj H
  go_enter Try.func67, Try.ntmps67
  go_wp2
  go_ret
  exact ⟨sqD, by repeat (first | exact zw.refl _ | apply zw.step)⟩
 ·rw [if_neg c2] at H
  have c2b0 : (a0 == 2) = false := beq_eq_false_iff_ne.mpr c2
  have c2b1 : (a0 != 2) = true := bne_iff_ne.mpr c2
  by_cases c3 : a0 = 3
  ·rw [if_pos c3] at H
   have c3b0 : (a0 == 3) = true := beq_iff_eq.mpr c3
   have c3b1 : (a0 != 3) = false := bne_eq_false_iff_eq.mpr c3
   clear c3
   obtain rfl := Option.some.inj H
   go_enter Try.func67, Try.ntmps67
   go_wp2
   go_ret
   exact ⟨sqD, by repeat (first | exact zw.refl _ | apply zw.step)⟩
  ·rw [if_neg c3] at H
   have c3b0 : (a0 == 3) = false := beq_eq_false_iff_ne.mpr c3
   have c3b1 : (a0 != 3) = true := bne_iff_ne.mpr c3
   by_cases c4 : a0 = 5
   ·rw [if_pos c4] at H
    have c4b0 : (a0 == 5) = true := beq_iff_eq.mpr c4
    have c4b1 : (a0 != 5) = false := bne_eq_false_iff_eq.mpr c4
    clear c4
    obtain rfl := Option.some.inj H
    go_enter Try.func67, Try.ntmps67
    go_wp2
    go_ret
    exact ⟨sqD, by repeat (first | exact zw.refl _ | apply zw.step)⟩
   ·rw [if_neg c4] at H
    have c4b0 : (a0 == 5) = false := beq_eq_false_iff_ne.mpr c4
    have c4b1 : (a0 != 5) = true := bne_iff_ne.mpr c4
    obtain rfl := Option.some.inj H
    go_enter Try.func67, Try.ntmps67
    go_wp2
    go_ret
    exact ⟨sqD, by repeat (first | exact zw.refl _ | apply zw.step)⟩

def z7.f (a0 : Int) : Option (Bool) := if a0 ≥ 0 then (some (decide (a0 ≤ 8))) else (some false)
theorem z7.calls (a0 : Int) (r : Bool) (w : World) (h : z7.f a0 = some r) :
  Calls Try.prog 68 #[.int .i64 a0] w fun e w' => e = .returned (.bool r) ∧ zw w w' := by
 have H : (if a0 ≥ 0 then (some (decide (a0 ≤ 8))) else (some false)) = some r := h
 clear h
 by_cases c2 : a0 ≥ 0
 ·rw [if_pos c2] at H
  have c2b0 : decide (0 ≤ a0) = true := decide_eq_true c2
  clear c2
  obtain rfl := Option.some.inj H
  go_enter Try.func68, Try.ntmps68
  go_wp2
  go_ret
  exact ⟨sqD, by repeat (first | exact zw.refl _ | apply zw.step)⟩
 ·rw [if_neg c2] at H
  have c2b0 : decide (0 ≤ a0) = false := decide_eq_false c2
  clear c2
  obtain rfl := Option.some.inj H
  go_enter Try.func68, Try.ntmps68
  go_wp2
  go_ret
  exact ⟨sqD, by repeat (first | exact zw.refl _ | apply zw.step)⟩

mutual
def zv.j0 : Nat → Bool → Int → Int → Int → List Int → Option (Bool)
 | 0, _, _, _, _, _ => none
 | k + 1, x31, x180000, x180001, x180002, x180003 => if x31 = true then (some false) else (zv.l0 k x180003 (x180003.length : Int) 0 x180000 x180001 x180002 x180003)
def zv.l0 : Nat → List Int → Int → Int → Int → Int → Int → List Int → Option (Bool)
 | 0, _, _, _, _, _, _, _ => none
 | k + 1, x33, x34, x35, x180000, x180001, x180002, x180003 => if x35 < x34 then (if 0 ≤ x35 then (if x35 < (x33.length : Int) then (if (rd x33 x35) < 0 then (some false) else (if (rd x33 x35) ≥ x180000 then (some false) else (zv.l0 k x33 x34 (wrap64 (x35 + 1)) x180000 x180001 x180002 x180003))) else (none)) else (none)) else (some true)
end
def zv.f (k : Nat) (a0_0 : Int) (a0_1 : Int) (a0_2 : Int) (l0_3 : List Int) : Option (Bool) := (qx.f a0_0).bind fun t180 => (if t180 = true then ((z7.f a0_1).bind fun t181 => (if t181 = true then ((z7.f a0_2).bind fun t182 => (if t182 = true then (zv.j0 k ((l0_3.length : Int) != (wrap64 (a0_1 * a0_2))) a0_0 a0_1 a0_2 l0_3) else (zv.j0 k true a0_0 a0_1 a0_2 l0_3))) else (zv.j0 k true a0_0 a0_1 a0_2 l0_3))) else (zv.j0 k true a0_0 a0_1 a0_2 l0_3))
theorem zv.calls (k : Nat) (a0_0 : Int) (a0_1 : Int) (a0_2 : Int) (A0_3 : Option Addr) (c0_3 : Nat) (l0_3 : List Int) (r : Bool) (w : World) (hr0_3 : Kd.C (Kd.int .i64) w A0_3 l0_3.length l0_3) (hc0_3 : l0_3.length ≤ c0_3) (h : zv.f k a0_0 a0_1 a0_2 l0_3 = some r) :
  Calls Try.prog 39 #[.agg #[.int .i64 a0_0, .int .i64 a0_1, .int .i64 a0_2, .slice A0_3 l0_3.length c0_3]] w fun e w' => e = .returned (.bool r) ∧ Below w.heap.size w w' := by
 have hu27 := Try.underlying27
 have HR0_3 := Aside0.mk hr0_3
 have HC0_3 := Aside0.mk hc0_3
 clear hr0_3 hc0_3
 have HB := Aside0.mk (Below.refl w.heap.size w)
 have H : ((qx.f a0_0).bind fun t180 => (if t180 = true then ((z7.f a0_1).bind fun t181 => (if t181 = true then ((z7.f a0_2).bind fun t182 => (if t182 = true then (zv.j0 k ((l0_3.length : Int) != (wrap64 (a0_1 * a0_2))) a0_0 a0_1 a0_2 l0_3) else (zv.j0 k true a0_0 a0_1 a0_2 l0_3))) else (zv.j0 k true a0_0 a0_1 a0_2 l0_3))) else (zv.j0 k true a0_0 a0_1 a0_2 l0_3))) = some r := h
 clear h
 have HC2 := Aside0.mk H
 clear H
 go_enter Try.func39, Try.ntmps39
 go_upto_region 1 with (first | ((with_reducible refine zC (N := 1) rfl ?_); (try (refine vY (by rfl) ?_; dsimp only)); refine zD ?hg (N := 1) ?hd (cs := #[.int .i64 a0_0, .int .i64 a0_1, .int .i64 a0_2, .slice A0_3 l0_3.length c0_3]) (t := 27) ?hr ?_; (case hd => rfl); (case hg => rfl); (case hr => exact sqG); intro gb179 hg w3 hbox hb; have n0_ := Aside0.mk (zg sqB hb); have n1_ := Aside0.mk (hbox); have n2_ := Aside0.mk ((sqS hg : w.heap.size ≤ gb179)); have n3_ := Aside0.mk ((sqS hg : w.heap.size ≤ gb179)); clear HB; have HB := n0_; have BK179 := n1_; have GW179 := n2_; have GE179 := n3_; clear n0_ n1_ n2_ n3_; clear hb hbox hg))
 (try simp only [Act.put, List.setIfInBounds_toArray, List.set_cons_zero, List.set_cons_succ])
 go_cut [31] (fun v31 wc => ∃ (kq : Nat) (x31_1 : Bool), v31 = .bool x31_1 ∧ Aside0 (zv.j0 kq x31_1 a0_0 a0_1 a0_2 l0_3 = some r) ∧ Aside0 (kq ≤ k) ∧ Aside0 (wc.heap[gb179]? = some (.cells #[.int .i64 a0_0, .int .i64 a0_1, .int .i64 a0_2, (.slice A0_3 l0_3.length c0_3)] 27 (0, 0))) ∧ Aside0 (Below w.heap.size w wc))
 case first =>
  have H := HC2.out
  clear HC2
  replace H := Option.bind_eq_some_iff.mp H
  obtain ⟨t180, A40, H⟩ := H
  replace H : (if t180 = true then ((z7.f a0_1).bind fun t181 => (if t181 = true then ((z7.f a0_2).bind fun t182 => (if t182 = true then (zv.j0 k ((l0_3.length : Int) != (wrap64 (a0_1 * a0_2))) a0_0 a0_1 a0_2 l0_3) else (zv.j0 k true a0_0 a0_1 a0_2 l0_3))) else (zv.j0 k true a0_0 a0_1 a0_2 l0_3))) else (zv.j0 k true a0_0 a0_1 a0_2 l0_3)) = some r := H
  have A4 := Aside0.mk A40
  clear A40
  by_cases c5 : t180 = true
  ·subst c5
   have H1 : ((z7.f a0_1).bind fun t181 => (if t181 = true then ((z7.f a0_2).bind fun t182 => (if t182 = true then (zv.j0 k ((l0_3.length : Int) != (wrap64 (a0_1 * a0_2))) a0_0 a0_1 a0_2 l0_3) else (zv.j0 k true a0_0 a0_1 a0_2 l0_3))) else (zv.j0 k true a0_0 a0_1 a0_2 l0_3))) = some r := by rw [if_pos rfl] at H; exact H
   clear H
   have H := H1
   clear H1
   replace H := Option.bind_eq_some_iff.mp H
   obtain ⟨t181, A60, H⟩ := H
   replace H : (if t181 = true then ((z7.f a0_2).bind fun t182 => (if t182 = true then (zv.j0 k ((l0_3.length : Int) != (wrap64 (a0_1 * a0_2))) a0_0 a0_1 a0_2 l0_3) else (zv.j0 k true a0_0 a0_1 a0_2 l0_3))) else (zv.j0 k true a0_0 a0_1 a0_2 l0_3)) = some r := H
   have A6 := Aside0.mk A60
   clear A60
   by_cases c7 : t181 = true
   ·subst c7
    have H1 : ((z7.f a0_2).bind fun t182 => (if t182 = true then (zv.j0 k ((l0_3.length : Int) != (wrap64 (a0_1 * a0_2))) a0_0 a0_1 a0_2 l0_3) else (zv.j0 k true a0_0 a0_1 a0_2 l0_3))) = some r := by rw [if_pos rfl] at H; exact H
    clear H
    have H := H1
    clear H1
    replace H := Option.bind_eq_some_iff.mp H
    obtain ⟨t182, A80, H⟩ := H
    replace H : (if t182 = true then (zv.j0 k ((l0_3.length : Int) != (wrap64 (a0_1 * a0_2))) a0_0 a0_1 a0_2 l0_3) else (zv.j0 k true a0_0 a0_1 a0_2 l0_3)) = some r := H
    have A8 := Aside0.mk A80
    clear A80
    by_cases c9 : t182 = true
    ·subst c9
     have H1 : (zv.j0 k ((l0_3.length : Int) != (wrap64 (a0_1 * a0_2))) a0_0 a0_1 a0_2 l0_3) = some r := by rw [if_pos rfl] at H; exact H
     clear H
     have H := H1
     clear H1
     have H' := Aside0.mk H
     clear H
     have hcz10_0 : w3.cell? ⟨gb179, 0, none⟩ = some (.int .i64 a0_0) := (zb BK179.out 0).trans rfl
     have hcz10_1 : w3.cell? ⟨gb179, 1, none⟩ = some (.int .i64 a0_1) := (zb BK179.out 1).trans rfl
     have hcz10_2 : w3.cell? ⟨gb179, 2, none⟩ = some (.int .i64 a0_2) := (zb BK179.out 2).trans rfl
     have hcz10_3 : w3.cell? ⟨gb179, 3, none⟩ = some (.slice A0_3 l0_3.length c0_3) := (zb BK179.out 3).trans rfl
     have hfz10_0 := za BK179.out 0; have hfz10_1 := za BK179.out 1; have hfz10_2 := za BK179.out 2; have hfz10_3 := za BK179.out 3
     go_wp2_with (first | ((with_reducible refine zp (f := 67) rfl ?_); refine zP (some 7) rfl rfl Try.func67 (by kernel_rfl) rfl #[.int .i64 a0_0] rfl sqM ?_; (with_reducible refine (qx.calls a0_0 true _ A4.out).mono ?_); rintro e w' ⟨rfl, ⟨nd, rfl⟩⟩; refine ⟨_, rfl, ?_⟩) | (go_at_call 68; (try simp only [zf, zh]); (with_reducible refine (z7.calls a0_1 true _ A6.out).mono ?_); rintro e w' ⟨rfl, ⟨nd, rfl⟩⟩) | (go_at_call 68; (try simp only [zf, zh]); (with_reducible refine (z7.calls a0_2 true _ A8.out).mono ?_); rintro e w' ⟨rfl, ⟨nd, rfl⟩⟩))
     go_meet
     case rel => exact ⟨_, (((l0_3.length : Int) != (wrap64 (a0_1 * a0_2)))), (by first | rfl | (simp only [zf, zh]; done) | (simp; done) | (simp [*]; done)), H', ⟨by first | omega | exact Nat.le_refl _⟩, ⟨sqK BK179.out⟩, ⟨sqB⟩⟩
    ·replace c9 := Bool.eq_false_iff.mpr c9
     subst c9
     have H1 : (zv.j0 k true a0_0 a0_1 a0_2 l0_3) = some r := by rw [if_neg (show ¬ (false = true) by decide)] at H; exact H
     clear H
     have H := H1
     clear H1
     have H' := Aside0.mk H
     clear H
     have hcz11_0 : w3.cell? ⟨gb179, 0, none⟩ = some (.int .i64 a0_0) := (zb BK179.out 0).trans rfl
     have hcz11_1 : w3.cell? ⟨gb179, 1, none⟩ = some (.int .i64 a0_1) := (zb BK179.out 1).trans rfl
     have hcz11_2 : w3.cell? ⟨gb179, 2, none⟩ = some (.int .i64 a0_2) := (zb BK179.out 2).trans rfl
     have hcz11_3 : w3.cell? ⟨gb179, 3, none⟩ = some (.slice A0_3 l0_3.length c0_3) := (zb BK179.out 3).trans rfl
     have hfz11_0 := za BK179.out 0; have hfz11_1 := za BK179.out 1; have hfz11_2 := za BK179.out 2; have hfz11_3 := za BK179.out 3
     go_wp2_with (first | ((with_reducible refine zp (f := 67) rfl ?_); refine zP (some 7) rfl rfl Try.func67 (by kernel_rfl) rfl #[.int .i64 a0_0] rfl sqM ?_; (with_reducible refine (qx.calls a0_0 true _ A4.out).mono ?_); rintro e w' ⟨rfl, ⟨nd, rfl⟩⟩; refine ⟨_, rfl, ?_⟩) | (go_at_call 68; (try simp only [zf, zh]); (with_reducible refine (z7.calls a0_1 true _ A6.out).mono ?_); rintro e w' ⟨rfl, ⟨nd, rfl⟩⟩) | (go_at_call 68; (try simp only [zf, zh]); (with_reducible refine (z7.calls a0_2 false _ A8.out).mono ?_); rintro e w' ⟨rfl, ⟨nd, rfl⟩⟩))
     go_meet
     case rel => exact ⟨_, (true), (sqD), H', ⟨by first | omega | exact Nat.le_refl _⟩, ⟨sqK BK179.out⟩, ⟨sqB⟩⟩
   ·replace c7 := Bool.eq_false_iff.mpr c7
    subst c7
    have H1 : (zv.j0 k true a0_0 a0_1 a0_2 l0_3) = some r := by rw [if_neg (show ¬ (false = true) by decide)] at H; exact H
    clear H
    have H := H1
    clear H1
    have H' := Aside0.mk H
    clear H
    have hcz12_0 : w3.cell? ⟨gb179, 0, none⟩ = some (.int .i64 a0_0) := (zb BK179.out 0).trans rfl
    have hcz12_1 : w3.cell? ⟨gb179, 1, none⟩ = some (.int .i64 a0_1) := (zb BK179.out 1).trans rfl
    have hcz12_2 : w3.cell? ⟨gb179, 2, none⟩ = some (.int .i64 a0_2) := (zb BK179.out 2).trans rfl
    have hcz12_3 : w3.cell? ⟨gb179, 3, none⟩ = some (.slice A0_3 l0_3.length c0_3) := (zb BK179.out 3).trans rfl
    have hfz12_0 := za BK179.out 0; have hfz12_1 := za BK179.out 1; have hfz12_2 := za BK179.out 2; have hfz12_3 := za BK179.out 3
    go_wp2_with (first | ((with_reducible refine zp (f := 67) rfl ?_); refine zP (some 7) rfl rfl Try.func67 (by kernel_rfl) rfl #[.int .i64 a0_0] rfl sqM ?_; (with_reducible refine (qx.calls a0_0 true _ A4.out).mono ?_); rintro e w' ⟨rfl, ⟨nd, rfl⟩⟩; refine ⟨_, rfl, ?_⟩) | (go_at_call 68; (try simp only [zf, zh]); (with_reducible refine (z7.calls a0_1 false _ A6.out).mono ?_); rintro e w' ⟨rfl, ⟨nd, rfl⟩⟩))
    go_meet
    case rel => exact ⟨_, (true), (sqD), H', ⟨by first | omega | exact Nat.le_refl _⟩, ⟨sqK BK179.out⟩, ⟨sqB⟩⟩
  ·replace c5 := Bool.eq_false_iff.mpr c5
   subst c5
   have H1 : (zv.j0 k true a0_0 a0_1 a0_2 l0_3) = some r := by rw [if_neg (show ¬ (false = true) by decide)] at H; exact H
   clear H
   have H := H1
   clear H1
   have H' := Aside0.mk H
   clear H
   have hcz13_0 : w3.cell? ⟨gb179, 0, none⟩ = some (.int .i64 a0_0) := (zb BK179.out 0).trans rfl
   have hcz13_1 : w3.cell? ⟨gb179, 1, none⟩ = some (.int .i64 a0_1) := (zb BK179.out 1).trans rfl
   have hcz13_2 : w3.cell? ⟨gb179, 2, none⟩ = some (.int .i64 a0_2) := (zb BK179.out 2).trans rfl
   have hcz13_3 : w3.cell? ⟨gb179, 3, none⟩ = some (.slice A0_3 l0_3.length c0_3) := (zb BK179.out 3).trans rfl
   have hfz13_0 := za BK179.out 0; have hfz13_1 := za BK179.out 1; have hfz13_2 := za BK179.out 2; have hfz13_3 := za BK179.out 3
   go_wp2_with (first | ((with_reducible refine zp (f := 67) rfl ?_); refine zP (some 7) rfl rfl Try.func67 (by kernel_rfl) rfl #[.int .i64 a0_0] rfl sqM ?_; (with_reducible refine (qx.calls a0_0 false _ A4.out).mono ?_); rintro e w' ⟨rfl, ⟨nd, rfl⟩⟩; refine ⟨_, rfl, ?_⟩))
   go_meet
   case rel => exact ⟨_, (true), (sqD), H', ⟨by first | omega | exact Nat.le_refl _⟩, ⟨sqK BK179.out⟩, ⟨sqB⟩⟩
 case rest =>
  clear HC2
  try clear p2
  try clear c3
  try clear c5
  try clear c6
  try clear p6
  try clear c7
  try clear c9
  try clear hcz10_0
  try clear hcz10_1
  try clear hcz10_2
  try clear hcz10_3
  try clear hcz11_0
  try clear hcz11_1
  try clear hcz11_2
  try clear hcz11_3
  try clear hcz12_0
  try clear hcz12_1
  try clear hcz12_2
  try clear hcz12_3
  try clear hcz13_0
  try clear hcz13_1
  try clear hcz13_2
  try clear hcz13_3
  try clear hfz10_0
  try clear hfz10_1
  try clear hfz10_2
  try clear hfz10_3
  try clear hfz11_0
  try clear hfz11_1
  try clear hfz11_2
  try clear hfz11_3
  try clear hfz12_0
  try clear hfz12_1
  try clear hfz12_2
  try clear hfz12_3
  try clear hfz13_0
  try clear hfz13_1
  try clear hfz13_2
  try clear hfz13_3
  obtain ⟨kq, x31_1, rfl, HA, HJ1, BK179, HB⟩ := hcut
  cases kq with
  | zero => exact absurd HA.out (by simp [zv.j0])
  | succ kj1 =>
   have H := HA.out
   clear HA
   simp only [zv.j0] at H
   by_cases c14 : x31_1 = true
   ·subst c14
    have H1 : (some false) = some r := by rw [if_pos rfl] at H; exact H
    clear H
    have H := H1
    clear H1
    obtain rfl := Option.some.inj H
    go_wp2
    go_ret
    exact ⟨sqE, sqB⟩
   ·replace c14 := Bool.eq_false_iff.mpr c14
    subst c14
    have H1 : (zv.l0 kj1 l0_3 (l0_3.length : Int) 0 a0_0 a0_1 a0_2 l0_3) = some r := by rw [if_neg (show ¬ (false = true) by decide)] at H; exact H
    clear H
    have H := H1
    clear H1
    have H' := Aside0.mk H
    clear H
    have hcz15_0 : wc.cell? ⟨gb179, 0, none⟩ = some (.int .i64 a0_0) := (zb BK179.out 0).trans rfl
    have hcz15_1 : wc.cell? ⟨gb179, 1, none⟩ = some (.int .i64 a0_1) := (zb BK179.out 1).trans rfl
    have hcz15_2 : wc.cell? ⟨gb179, 2, none⟩ = some (.int .i64 a0_2) := (zb BK179.out 2).trans rfl
    have hcz15_3 : wc.cell? ⟨gb179, 3, none⟩ = some (.slice A0_3 l0_3.length c0_3) := (zb BK179.out 3).trans rfl
    have hfz15_0 := za BK179.out 0; have hfz15_1 := za BK179.out 1; have hfz15_2 := za BK179.out 2; have hfz15_3 := za BK179.out 3
    go_wp2
    go_loopg [35] kj1 (fun kq v35 w' => ∃ (x35_2 : Int), v35 = .int .i64 x35_2 ∧ Aside0 (zv.l0 kq l0_3 (l0_3.length : Int) x35_2 a0_0 a0_1 a0_2 l0_3 = some r) ∧ Aside0 (kq ≤ kj1) ∧ Aside0 (w'.heap[gb179]? = some (.cells #[.int .i64 a0_0, .int .i64 a0_1, .int .i64 a0_2, (.slice A0_3 l0_3.length c0_3)] 27 (0, 0))) ∧ Aside0 (Below w.heap.size w w'))
    case atStart => exact ⟨(0), (sqD), H', ⟨Nat.le_refl _⟩, ⟨sqK BK179.out⟩, ⟨sqB⟩⟩
    case round =>
     clear H'
     try clear c1
     try clear p2
     try clear c3
     try clear c5
     try clear c6
     try clear p6
     try clear c7
     try clear c9
     try clear c14
     try clear hcz10_0
     try clear hcz10_1
     try clear hcz10_2
     try clear hcz10_3
     try clear hcz11_0
     try clear hcz11_1
     try clear hcz11_2
     try clear hcz11_3
     try clear hcz12_0
     try clear hcz12_1
     try clear hcz12_2
     try clear hcz12_3
     try clear hcz13_0
     try clear hcz13_1
     try clear hcz13_2
     try clear hcz13_3
     try clear hcz15_0
     try clear hcz15_1
     try clear hcz15_2
     try clear hcz15_3
     try clear hfz10_0
     try clear hfz10_1
     try clear hfz10_2
     try clear hfz10_3
     try clear hfz11_0
     try clear hfz11_1
     try clear hfz11_2
     try clear hfz11_3
     try clear hfz12_0
     try clear hfz12_1
     try clear hfz12_2
     try clear hfz12_3
     try clear hfz13_0
     try clear hfz13_1
     try clear hfz13_2
     try clear hfz13_3
     try clear hfz15_0
     try clear hfz15_1
     try clear hfz15_2
     try clear hfz15_3
     try clear p2
     try clear p6
     obtain ⟨x35_2, rfl, HA, HK2, BK179, HB⟩ := hrel
     cases gk with
     | zero => exact absurd HA.out (by simp [zv.l0])
     | succ k2 =>
      have H := HA.out
      clear HA
      simp only [zv.l0] at H
      by_cases c16 : x35_2 < (l0_3.length : Int)
      ·rw [if_pos c16] at H
       have c16b0 : decide (x35_2 < (l0_3.length : Int)) = true := decide_eq_true c16
       clear c16
       by_cases c17 : 0 ≤ x35_2
       ·rw [if_pos c17] at H
        have c17b0 : decide (0 ≤ x35_2) = true := decide_eq_true c17
        clear c17
        by_cases c18 : x35_2 < (l0_3.length : Int)
        ·rw [if_pos c18] at H
         have c18b0 : decide (x35_2 < (l0_3.length : Int)) = true := decide_eq_true c18
         clear c18
         by_cases c19 : (rd l0_3 x35_2) < 0
         ·rw [if_pos c19] at H
          have c19b0 : decide ((rd l0_3 x35_2) < 0) = true := decide_eq_true c19
          clear c19
          obtain rfl := Option.some.inj H
          have p183 : 0 ≤ (x35_2 : Int) := of_decide_eq_true sqA
          have q183 : x35_2 < (l0_3.length : Int) := of_decide_eq_true sqA
          obtain ⟨ad183, e183, hx183_0⟩ := Kd.qh HR0_3.out x35_2 p183 q183
          cases e183
          replace hx183_0 := (HB.out.cell (World.block_lt_of_cell? w _ hx183_0)).trans hx183_0
          replace p183 := eq_true p183
          replace q183 := eq_true q183
          go_wp2
          go_ret
          exact ⟨sqE, sqB⟩
         ·rw [if_neg c19] at H
          have c19b0 : decide ((rd l0_3 x35_2) < 0) = false := decide_eq_false c19
          clear c19
          by_cases c20 : (rd l0_3 x35_2) ≥ a0_0
          ·rw [if_pos c20] at H
           have c20b0 : decide (a0_0 ≤ (rd l0_3 x35_2)) = true := decide_eq_true c20
           clear c20
           obtain rfl := Option.some.inj H
           have p183 : 0 ≤ (x35_2 : Int) := of_decide_eq_true sqA
           have q183 : x35_2 < (l0_3.length : Int) := of_decide_eq_true sqA
           obtain ⟨ad183, e183, hx183_0⟩ := Kd.qh HR0_3.out x35_2 p183 q183
           cases e183
           replace hx183_0 := (HB.out.cell (World.block_lt_of_cell? w _ hx183_0)).trans hx183_0
           replace p183 := eq_true p183
           replace q183 := eq_true q183
           have hcz21_0 : wr.cell? ⟨gb179, 0, none⟩ = some (.int .i64 a0_0) := (zb BK179.out 0).trans rfl
           have hcz21_1 : wr.cell? ⟨gb179, 1, none⟩ = some (.int .i64 a0_1) := (zb BK179.out 1).trans rfl
           have hcz21_2 : wr.cell? ⟨gb179, 2, none⟩ = some (.int .i64 a0_2) := (zb BK179.out 2).trans rfl
           have hcz21_3 : wr.cell? ⟨gb179, 3, none⟩ = some (.slice (some ad183) l0_3.length c0_3) := (zb BK179.out 3).trans rfl
           have hfz21_0 := za BK179.out 0; have hfz21_1 := za BK179.out 1; have hfz21_2 := za BK179.out 2; have hfz21_3 := za BK179.out 3
           go_wp2
           go_ret
           exact ⟨sqE, sqB⟩
          ·rw [if_neg c20] at H
           have c20b0 : decide (a0_0 ≤ (rd l0_3 x35_2)) = false := decide_eq_false c20
           clear c20
           have H' := Aside0.mk H
           clear H
           have p183 : 0 ≤ (x35_2 : Int) := of_decide_eq_true sqA
           have q183 : x35_2 < (l0_3.length : Int) := of_decide_eq_true sqA
           obtain ⟨ad183, e183, hx183_0⟩ := Kd.qh HR0_3.out x35_2 p183 q183
           cases e183
           replace hx183_0 := (HB.out.cell (World.block_lt_of_cell? w _ hx183_0)).trans hx183_0
           replace p183 := eq_true p183
           replace q183 := eq_true q183
           have hcz22_0 : wr.cell? ⟨gb179, 0, none⟩ = some (.int .i64 a0_0) := (zb BK179.out 0).trans rfl
           have hcz22_1 : wr.cell? ⟨gb179, 1, none⟩ = some (.int .i64 a0_1) := (zb BK179.out 1).trans rfl
           have hcz22_2 : wr.cell? ⟨gb179, 2, none⟩ = some (.int .i64 a0_2) := (zb BK179.out 2).trans rfl
           have hcz22_3 : wr.cell? ⟨gb179, 3, none⟩ = some (.slice (some ad183) l0_3.length c0_3) := (zb BK179.out 3).trans rfl
           have hfz22_0 := za BK179.out 0; have hfz22_1 := za BK179.out 1; have hfz22_2 := za BK179.out 2; have hfz22_3 := za BK179.out 3
           go_wp2
           go_roundg k2
           case measure => have := HJ1.out; have := HK2.out; omega
           case rel => exact ⟨(wrap64 (x35_2 + 1)), (sqD), H', ⟨by have := HJ1.out; have := HK2.out; omega⟩, ⟨sqK BK179.out⟩, ⟨sqB⟩⟩
        ·rw [if_neg c18] at H
         exact absurd H (by simp)
       ·rw [if_neg c17] at H
        exact absurd H (by simp)
      ·rw [if_neg c16] at H
       have c16b0 : decide (x35_2 < (l0_3.length : Int)) = false := decide_eq_false c16
       clear c16
       obtain rfl := Option.some.inj H
       go_wp2
       go_ret
       exact ⟨sqE, sqB⟩

mutual
def zz.j0 : Nat → Int → Int → Bool → Option (Int)
 | 0, _, _, _ => none
 | k + 1, x0, x1, x17 => if x17 = true then (some 0) else (zz.l0 k x0 x1 1)
def zz.l0 : Nat → Int → Int → Int → Option (Int)
 | 0, _, _, _ => none
 | k + 1, x0, x1, x5 => if x0 = 0 then (none) else (if (Int.tmod (wrap64 (x1 * x5)) x0) = 1 then (some x5) else (zz.l0 k x0 x1 (wrap64 (x5 + 1))))
end
def zz.f (k : Nat) (a0 : Int) (a1 : Int) : Option (Int) := (qx.f a0).bind fun t184 => (if t184 = true then (if a1 < 1 then (zz.j0 k a0 a1 true) else (zz.j0 k a0 a1 (decide (a1 ≥ a0)))) else (zz.j0 k a0 a1 true))
theorem zz.calls (k : Nat) (a0 : Int) (a1 : Int) (r : Int) (w : World) (h : zz.f k a0 a1 = some r) :
  Calls Try.prog 72 #[.int .i64 a0, .int .i64 a1] w fun e w' => e = .returned (.int .i64 r) ∧ zw w w' := by
 have H : ((qx.f a0).bind fun t184 => (if t184 = true then (if a1 < 1 then (zz.j0 k a0 a1 true) else (zz.j0 k a0 a1 (decide (a1 ≥ a0)))) else (zz.j0 k a0 a1 true))) = some r := h
 clear h
 have HC3 := Aside0.mk H
 clear H
 go_enter Try.func72, Try.ntmps72
 go_upto_region 1 with (fail)
 go_cut [17] (fun v17 wc => ∃ (kq : Nat) (x17_2 : Bool), v17 = .bool x17_2 ∧ Aside0 (zz.j0 kq a0 a1 x17_2 = some r) ∧ Aside0 (kq ≤ k) ∧ zw w wc)
 case first =>
  have H := HC3.out
  clear HC3
  replace H := Option.bind_eq_some_iff.mp H
  obtain ⟨t184, A40, H⟩ := H
  replace H : (if t184 = true then (if a1 < 1 then (zz.j0 k a0 a1 true) else (zz.j0 k a0 a1 (decide (a1 ≥ a0)))) else (zz.j0 k a0 a1 true)) = some r := H
  have A4 := Aside0.mk A40
  clear A40
  by_cases c5 : t184 = true
  ·subst c5
   have H1 : (if a1 < 1 then (zz.j0 k a0 a1 true) else (zz.j0 k a0 a1 (decide (a1 ≥ a0)))) = some r := by rw [if_pos rfl] at H; exact H
   clear H
   have H := H1
   clear H1
   by_cases c6 : a1 < 1
   ·rw [if_pos c6] at H
    have c6b0 : decide (a1 < 1) = true := decide_eq_true c6
    clear c6
    (first | rw [c6b0] | (simp only [zf, zh]; rw [c6b0]) | skip)
    have H' := Aside0.mk H
    clear H
    go_wp2_with (first | ((with_reducible refine zp (f := 67) rfl ?_); refine zP (some 7) rfl rfl Try.func67 (by kernel_rfl) rfl #[.int .i64 a0] rfl sqM ?_; (with_reducible refine (qx.calls a0 true _ A4.out).mono ?_); rintro e w' ⟨rfl, ⟨nd, rfl⟩⟩; refine ⟨_, rfl, ?_⟩))
    go_meet
    case rel => exact ⟨_, (true), (sqD), H', ⟨by first | omega | exact Nat.le_refl _⟩, by repeat (first | exact zw.refl _ | apply zw.step)⟩
   ·rw [if_neg c6] at H
    have c6b0 : decide (a1 < 1) = false := decide_eq_false c6
    clear c6
    (first | rw [c6b0] | (simp only [zf, zh]; rw [c6b0]) | skip)
    have H' := Aside0.mk H
    clear H
    go_wp2_with (first | ((with_reducible refine zp (f := 67) rfl ?_); refine zP (some 7) rfl rfl Try.func67 (by kernel_rfl) rfl #[.int .i64 a0] rfl sqM ?_; (with_reducible refine (qx.calls a0 true _ A4.out).mono ?_); rintro e w' ⟨rfl, ⟨nd, rfl⟩⟩; refine ⟨_, rfl, ?_⟩))
    go_meet
    case rel => exact ⟨_, (decide (a1 ≥ a0)), (sqD), H', ⟨by first | omega | exact Nat.le_refl _⟩, by repeat (first | exact zw.refl _ | apply zw.step)⟩
  ·replace c5 := Bool.eq_false_iff.mpr c5
   subst c5
   have H1 : (zz.j0 k a0 a1 true) = some r := by rw [if_neg (show ¬ (false = true) by decide)] at H; exact H
   clear H
   have H := H1
   clear H1
   have H' := Aside0.mk H
   clear H
   go_wp2_with (first | ((with_reducible refine zp (f := 67) rfl ?_); refine zP (some 7) rfl rfl Try.func67 (by kernel_rfl) rfl #[.int .i64 a0] rfl sqM ?_; (with_reducible refine (qx.calls a0 false _ A4.out).mono ?_); rintro e w' ⟨rfl, ⟨nd, rfl⟩⟩; refine ⟨_, rfl, ?_⟩))
   go_meet
   case rel => exact ⟨_, (true), (sqD), H', ⟨by first | omega | exact Nat.le_refl _⟩, by repeat (first | exact zw.refl _ | apply zw.step)⟩
 case rest =>
  clear HC3
  try clear p2
  try clear c5
  try clear c6
  try clear c6b0
  obtain ⟨kq, x17_2, rfl, HA, HJ2, ⟨mc2, rfl⟩⟩ := hcut
  cases kq with
  | zero => exact absurd HA.out (by simp [zz.j0])
  | succ kj2 =>
   have H := HA.out
   clear HA
   simp only [zz.j0] at H
   by_cases c7 : x17_2 = true
   ·subst c7
    have H1 : (some 0) = some r := by rw [if_pos rfl] at H; exact H
    clear H
    have H := H1
    clear H1
    obtain rfl := Option.some.inj H
    go_wp2
    go_ret
    exact ⟨sqD, by repeat (first | exact zw.refl _ | apply zw.step)⟩
   ·replace c7 := Bool.eq_false_iff.mpr c7
    subst c7
    have H1 : (zz.l0 kj2 a0 a1 1) = some r := by rw [if_neg (show ¬ (false = true) by decide)] at H; exact H
    clear H
    have H := H1
    clear H1
    have H' := Aside0.mk H
    clear H
    go_wp2
    go_loopg [5] kj2 (fun kq v5 w' => ∃ (x5_2 : Int), v5 = .int .i64 x5_2 ∧ Aside0 (zz.l0 kq a0 a1 x5_2 = some r) ∧ Aside0 (kq ≤ kj2) ∧ zw w w')
    case atStart => exact ⟨(1), (sqD), H', ⟨Nat.le_refl _⟩, by repeat (first | exact zw.refl _ | apply zw.step)⟩
    case round =>
     clear H'
     try clear c2
     try clear p2
     try clear c5
     try clear c6
     try clear c6b0
     try clear c7
     try clear p2
     obtain ⟨x5_2, rfl, HA, HK2, ⟨m2, rfl⟩⟩ := hrel
     cases gk with
     | zero => exact absurd HA.out (by simp [zz.l0])
     | succ k2 =>
      have H := HA.out
      clear HA
      simp only [zz.l0] at H
      by_cases c8 : a0 = 0
      ·rw [if_pos c8] at H
       exact absurd H (by simp)
      ·rw [if_neg c8] at H
       have c8b0 : (a0 == 0) = false := beq_eq_false_iff_ne.mpr c8
       have c8b1 : (a0 != 0) = true := bne_iff_ne.mpr c8
       by_cases c9 : (Int.tmod (wrap64 (a1 * x5_2)) a0) = 1
       ·rw [if_pos c9] at H
        have c9b0 : ((Int.tmod (wrap64 (a1 * x5_2)) a0) == 1) = true := beq_iff_eq.mpr c9
        have c9b1 : ((Int.tmod (wrap64 (a1 * x5_2)) a0) != 1) = false := bne_eq_false_iff_eq.mpr c9
        clear c9
        obtain rfl := Option.some.inj H
        go_wp2
        go_ret
        exact ⟨sqD, by repeat (first | exact zw.refl _ | apply zw.step)⟩
       ·rw [if_neg c9] at H
        have c9b0 : ((Int.tmod (wrap64 (a1 * x5_2)) a0) == 1) = false := beq_eq_false_iff_ne.mpr c9
        have c9b1 : ((Int.tmod (wrap64 (a1 * x5_2)) a0) != 1) = true := bne_iff_ne.mpr c9
        have H' := Aside0.mk H
        clear H
        go_wp2
        go_roundg k2
        case measure => have := HJ2.out; have := HK2.out; omega
        case rel => exact ⟨(wrap64 (x5_2 + 1)), (sqD), H', ⟨by have := HJ2.out; have := HK2.out; omega⟩, by repeat (first | exact zw.refl _ | apply zw.step)⟩

end Go.Proofs.Ytopkfhnnapncgaa.F
end
