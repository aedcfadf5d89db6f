/- Several texts of this session in one: Fx6, Fx4, GvSwap. Conditions: as each theorem says. -/
import Derived.Test.YtopkfhnnapncgaaZDualMatrix0
import Derived.Test.YtopkfhnnapncgaaZDualMatrix1
import Derived.Test.YtopkfhnnapncgaaZDualMatrix2
set_option maxHeartbeats 8000000
set_option maxRecDepth 100000
section
namespace Go.Proofs.Ytopkfhnnapncgaa.F
open Go.RowKit Go.Proofs.YtopkfhnnapncgaaW.PrintWords Go.Proofs.YtopkfhnnapncgaaW.PrintLast Go.Proofs.YtopkfhnnapncgaaW.PrintMore
attribute [local go_sem] jG jE jY j8 jl jk jK jM   -- for this text's walks alone
set_option linter.unusedVariables false
set_option linter.unusedSimpArgs false

mutual
def zH.l0 : Nat → List Int → Int → Int → Int → Int → List Int → Option (List Int)
 | 0, _, _, _, _, _, _ => none
 | k + 1, x3, x4, x345000, x345001, x345002, x345003 => if x4 < x345001 then (zH.l1 k x3 x4 0 x345000 x345001 x345002 x345003) else (some x3)
def zH.l1 : Nat → List Int → Int → Int → Int → Int → Int → List Int → Option (List Int)
 | 0, _, _, _, _, _, _, _ => none
 | k + 1, x3, x4, x5, x345000, x345001, x345002, x345003 => if 0 ≤ (wrap64 ((wrap64 (x4 * x345002)) + x5)) then (if (wrap64 ((wrap64 (x4 * x345002)) + x5)) < (x345003.length : Int) then (if (rd x345003 (wrap64 ((wrap64 (x4 * x345002)) + x5))) = 0 then (zH.l1 k x3 x4 (wrap64 (x5 + 1)) x345000 x345001 x345002 x345003) else (if x3.length < 17592186044416 then (zH.l0 k (x3 ++ [x5]) (wrap64 (x4 + 1)) x345000 x345001 x345002 x345003) else (none))) else (none)) else (none)
end
def zH.f (k : Nat) (a0_0 : Int) (a0_1 : Int) (a0_2 : Int) (l0_3 : List Int) : Option (List Int) := zH.l0 k (([] : List Int)) 0 a0_0 a0_1 a0_2 l0_3
theorem zH.calls (k : Nat) (a0_0 : Int) (a0_1 : Int) (a0_2 : Int) (A0_3 : Option Addr) (c0_3 : Nat) (l0_3 : List Int) (r : List Int) (w : World) (hr0_3 : Kd.C (Kd.int .i64) w A0_3 l0_3.length l0_3) (hc0_3 : l0_3.length ≤ c0_3) (h : zH.f k a0_0 a0_1 a0_2 l0_3 = some r) :
  Calls Try.prog 63 #[.agg #[.int .i64 a0_0, .int .i64 a0_1, .int .i64 a0_2, .slice A0_3 l0_3.length c0_3]] w fun e w' => ∃ v0_ : Value, e = .returned (v0_) ∧ Kd.R (Kd.int .i64) 3 w' w.heap.size (fun _ => True) v0_ r ∧ Below w.heap.size w w' := by
 have hu27 := Try.underlying27
 have HR0_3 := Aside0.mk hr0_3
 have HC0_3 := Aside0.mk hc0_3
 clear hr0_3 hc0_3
 have HB := Aside0.mk (Below.refl w.heap.size w)
 have H : (zH.l0 k (([] : List Int)) 0 a0_0 a0_1 a0_2 l0_3) = some r := h
 clear h
 obtain ⟨y345, hy345⟩ : ∃ y_ : List Int, y_ = (([] : List Int)) := ⟨_, rfl⟩
 replace H : (zH.l0 k y345 0 a0_0 a0_1 a0_2 l0_3) = some r := by first | (rw [hy345]; with_reducible exact H) | (have H2_ := (Option.bind_some _ _).symm.trans H; rw [hy345]; with_reducible exact H2_) | (have H2_ := (Option.bind_some _ _).symm.trans H; with_reducible exact H2_) | with_reducible exact H | (rw [hy345]; exact H) | exact H
 have Ny345 := Aside0.mk hy345
 clear hy345
 have H' := Aside0.mk H
 clear H
 go_enter Try.func63, Try.ntmps63
 go_wp2_with (first | ((with_reducible refine zC (N := 1) rfl ?_); refine zD ?hg (N := 1) ?hd (cs := #[.int .i64 a0_0, .int .i64 a0_1, .int .i64 a0_2, .slice A0_3 l0_3.length c0_3]) (t := 27) ?hr ?_; (case hd => rfl); (case hg => rfl); (case hr => exact sqG); intro gb344 hg w2 hbox hb; have n0_ := Aside0.mk (zg sqB hb); have n1_ := Aside0.mk (hbox); have n2_ := Aside0.mk ((sqS hg : w.heap.size ≤ gb344)); have n3_ := Aside0.mk ((sqS hg : w.heap.size ≤ gb344)); clear HB; have HB := n0_; have BK344 := n1_; have GW344 := n2_; have GE344 := n3_; clear n0_ n1_ n2_ n3_; clear hb hbox hg) | ((with_reducible refine zC (N := 6) rfl ?_); refine Kd.yC (Kd.int .i64) _ 3 ?hg (N := 6) ?hd (xs := ([] : List Int)) (inner := []) (ok := fun _ => True) (okp := fun _ => True) ?hr ?hp (fun _ hk => hk) trivial (Below.refl _ _) (Nat.le_refl _) (by simp) ?_; (case hd => rfl); (case hg => rfl); (case hr => exact sqG); (case hp => exact (qy.none _ _)); intro v346 w3 ho4 hb hg_ hnew_; clear hg_ hnew_; (first | rw [← Ny345.out] at ho4 | (simp only [Int.reduceToNat] at ho4; rw [← Ny345.out] at ho4)); have n0_ := Aside0.mk (Kd.qo ho4 (zJ sqB)); have n1_ := Aside0.mk (ze (g := gb344) (o := .cells #[.int .i64 a0_0, .int .i64 a0_1, .int .i64 a0_2, .slice A0_3 l0_3.length c0_3] 27 (0, 0)) (sqK BK344.out) hb); have n2_ := Aside0.mk (zg sqB hb); clear BK344; clear HB; have HO347 := n0_; have BK344 := n1_; have HB := n2_; clear n0_ n1_ n2_; clear hb ho4))
 go_loopg [3, 4] k (fun kq v3 v4 w' => ∃ (x3_1 : List Int) (x4_1 : Int), v4 = .int .i64 x4_1 ∧ Aside0 (zH.l0 kq x3_1 x4_1 a0_0 a0_1 a0_2 l0_3 = some r) ∧ Aside0 (kq ≤ k) ∧ Aside0 (Kd.R (Kd.int .i64) 3 w' w.heap.size (fun _ => True) v3 x3_1) ∧ Aside0 (w'.heap[gb344]? = some (.cells #[.int .i64 a0_0, .int .i64 a0_1, .int .i64 a0_2, (.slice A0_3 l0_3.length c0_3)] 27 (0, 0))) ∧ Aside0 (Below w.heap.size w w'))
 case atStart => exact ⟨(y345), (0), (sqD), H', ⟨Nat.le_refl _⟩, ⟨sqR HO347.out⟩, ⟨sqK BK344.out⟩, ⟨sqB⟩⟩
 case round =>
  clear H'
  try clear p2
  obtain ⟨x3_1, x4_1, rfl, HA, HK1, HO_3, BK344, HB⟩ := hrel
  cases gk with
  | zero => exact absurd HA.out (by simp [zH.l0])
  | succ k1 =>
   have H := HA.out
   clear HA
   simp only [zH.l0] at H
   by_cases c5 : x4_1 < a0_1
   ·rw [if_pos c5] at H
    have c5b0 : decide (x4_1 < a0_1) = true := decide_eq_true c5
    clear c5
    have H' := Aside0.mk H
    clear H
    have hcz6_0 : wr.cell? ⟨gb344, 0, none⟩ = some (.int .i64 a0_0) := (zb BK344.out 0).trans rfl
    have hcz6_1 : wr.cell? ⟨gb344, 1, none⟩ = some (.int .i64 a0_1) := (zb BK344.out 1).trans rfl
    have hcz6_2 : wr.cell? ⟨gb344, 2, none⟩ = some (.int .i64 a0_2) := (zb BK344.out 2).trans rfl
    have hcz6_3 : wr.cell? ⟨gb344, 3, none⟩ = some (.slice A0_3 l0_3.length c0_3) := (zb BK344.out 3).trans rfl
    have hfz6_0 := za BK344.out 0; have hfz6_1 := za BK344.out 1; have hfz6_2 := za BK344.out 2; have hfz6_3 := za BK344.out 3
    go_wp2
    go_loopg [5] k1 (fun kq v5 w' => ∃ (x5_2 : Int), v5 = .int .i64 x5_2 ∧ Aside0 (zH.l1 kq x3_1 x4_1 x5_2 a0_0 a0_1 a0_2 l0_3 = some r) ∧ Aside0 (kq ≤ k1) ∧ Aside0 (Kd.R (Kd.int .i64) 3 w' w.heap.size (fun _ => True) u3 x3_1) ∧ Aside0 (w'.heap[gb344]? = some (.cells #[.int .i64 a0_0, .int .i64 a0_1, .int .i64 a0_2, (.slice A0_3 l0_3.length c0_3)] 27 (0, 0))) ∧ Aside0 (Below w.heap.size w w'))
    case atStart => exact ⟨(0), (sqD), H', ⟨Nat.le_refl _⟩, ⟨sqR HO_3.out⟩, ⟨sqK BK344.out⟩, ⟨sqB⟩⟩
    case round =>
     clear H'
     try clear p2
     try clear c5
     try clear c5b0
     try clear c6
     try clear hcz6_0
     try clear hcz6_1
     try clear hcz6_2
     try clear hcz6_3
     try clear hfz6_0
     try clear hfz6_1
     try clear hfz6_2
     try clear hfz6_3
     try clear p2
     obtain ⟨x5_2, rfl, HA, HK2, HO_3, BK344, HB⟩ := hrel
     cases gk with
     | zero => exact absurd HA.out (by simp [zH.l1])
     | succ k2 =>
      have H := HA.out
      clear HA
      simp only [zH.l1] at H
      obtain ⟨ji7, hji7⟩ : ∃ j_ : Int, (wrap64 ((wrap64 (x4_1 * a0_2)) + x5_2)) = j_ := ⟨_, rfl⟩
      replace H : (if 0 ≤ (ji7) then (if (ji7) < (l0_3.length : Int) then (if (rd l0_3 (ji7)) = 0 then (zH.l1 k2 x3_1 x4_1 (wrap64 (x5_2 + 1)) a0_0 a0_1 a0_2 l0_3) else (if x3_1.length < 17592186044416 then (zH.l0 k2 (x3_1 ++ [x5_2]) (wrap64 (x4_1 + 1)) a0_0 a0_1 a0_2 l0_3) else (none))) else (none)) else (none)) = some r := by first | (rw [hji7] at H; exact H) | (simp only [hji7] at H ⊢; exact H)
      have hji7w : (IntKind.i64.wrap ((wrap64 (x4_1 * a0_2)) + x5_2)) = ji7 := (zf _).trans hji7
      by_cases c8 : 0 ≤ (ji7)
      ·rw [if_pos c8] at H
       have c8b0 : decide (0 ≤ (ji7)) = true := decide_eq_true c8
       clear c8
       by_cases c9 : (ji7) < (l0_3.length : Int)
       ·rw [if_pos c9] at H
        have c9b0 : decide ((ji7) < (l0_3.length : Int)) = true := decide_eq_true c9
        clear c9
        by_cases c10 : (rd l0_3 (ji7)) = 0
        ·rw [if_pos c10] at H
         have c10b0 : ((rd l0_3 (ji7)) == 0) = true := beq_iff_eq.mpr c10
         have c10b1 : ((rd l0_3 (ji7)) != 0) = false := bne_eq_false_iff_eq.mpr c10
         clear c10
         have H' := Aside0.mk H
         clear H
         have hcz11_0 : wr.cell? ⟨gb344, 0, none⟩ = some (.int .i64 a0_0) := (zb BK344.out 0).trans rfl
         have hcz11_1 : wr.cell? ⟨gb344, 1, none⟩ = some (.int .i64 a0_1) := (zb BK344.out 1).trans rfl
         have hcz11_2 : wr.cell? ⟨gb344, 2, none⟩ = some (.int .i64 a0_2) := (zb BK344.out 2).trans rfl
         have hcz11_3 : wr.cell? ⟨gb344, 3, none⟩ = some (.slice A0_3 l0_3.length c0_3) := (zb BK344.out 3).trans rfl
         have hfz11_0 := za BK344.out 0; have hfz11_1 := za BK344.out 1; have hfz11_2 := za BK344.out 2; have hfz11_3 := za BK344.out 3
         have p348 : 0 ≤ ((ji7) : Int) := of_decide_eq_true sqA
         have q348 : (ji7) < (l0_3.length : Int) := of_decide_eq_true sqA
         obtain ⟨ad348, e348, hx348_0⟩ := Kd.qh HR0_3.out (ji7) p348 q348
         cases e348
         replace hx348_0 := (HB.out.cell (World.block_lt_of_cell? w _ hx348_0)).trans hx348_0
         replace p348 := eq_true p348
         replace q348 := eq_true q348
         go_wp2
         go_roundg k2
         case measure => have := HK1.out; have := HK2.out; omega
         case rel => exact ⟨(wrap64 (x5_2 + 1)), (sqD), H', ⟨by have := HK1.out; have := HK2.out; omega⟩, ⟨sqR HO_3.out⟩, ⟨sqK BK344.out⟩, ⟨sqB⟩⟩
        ·rw [if_neg c10] at H
         have c10b0 : ((rd l0_3 (ji7)) == 0) = false := beq_eq_false_iff_ne.mpr c10
         have c10b1 : ((rd l0_3 (ji7)) != 0) = true := bne_iff_ne.mpr c10
         by_cases c12 : x3_1.length < 17592186044416
         ·rw [if_pos c12] at H
          have LMc12 := Aside0.mk c12
          clear c12
          obtain ⟨y349, hy349⟩ : ∃ y_ : List Int, y_ = (x3_1 ++ [x5_2]) := ⟨_, rfl⟩
          replace H : (zH.l0 k2 y349 (wrap64 (x4_1 + 1)) a0_0 a0_1 a0_2 l0_3) = some r := by first | (rw [hy349]; with_reducible exact H) | (have H2_ := (Option.bind_some _ _).symm.trans H; rw [hy349]; with_reducible exact H2_) | (have H2_ := (Option.bind_some _ _).symm.trans H; with_reducible exact H2_) | with_reducible exact H | (rw [hy349]; exact H) | exact H
          have Ny349 := Aside0.mk hy349
          clear hy349
          have H' := Aside0.mk H
          clear H
          have hcz13_0 : wr.cell? ⟨gb344, 0, none⟩ = some (.int .i64 a0_0) := (zb BK344.out 0).trans rfl
          have hcz13_1 : wr.cell? ⟨gb344, 1, none⟩ = some (.int .i64 a0_1) := (zb BK344.out 1).trans rfl
          have hcz13_2 : wr.cell? ⟨gb344, 2, none⟩ = some (.int .i64 a0_2) := (zb BK344.out 2).trans rfl
          have hcz13_3 : wr.cell? ⟨gb344, 3, none⟩ = some (.slice A0_3 l0_3.length c0_3) := (zb BK344.out 3).trans rfl
          have hfz13_0 := za BK344.out 0; have hfz13_1 := za BK344.out 1; have hfz13_2 := za BK344.out 2; have hfz13_3 := za BK344.out 3
          have p348 : 0 ≤ ((ji7) : Int) := of_decide_eq_true sqA
          have q348 : (ji7) < (l0_3.length : Int) := of_decide_eq_true sqA
          obtain ⟨ad348, e348, hx348_0⟩ := Kd.qh HR0_3.out (ji7) p348 q348
          cases e348
          replace hx348_0 := (HB.out.cell (World.block_lt_of_cell? w _ hx348_0)).trans hx348_0
          replace p348 := eq_true p348
          replace q348 := eq_true q348
          go_wp2_with (first | ((with_reducible refine qP (b := .append) (xs := #[.tmp 26, .tmp 28]) rfl ?_); at_builtin; refine Kd.yU (Kd.int .i64) (w0 := w) w.heap.size rfl (.tmp 26) (.tmp 28) 22 3 (.int .i64 0) 8 rfl Try.underlying22 vt rfl (by decide) (by omega) u3 x3_1 x5_2 [.int .i64 x5_2] (fun _ => True) (fun _ => False) rfl rfl ?aP (fun _ hk => hk.elim) ?aF ?aO ?aB ?aS ?aL ?_; (case aP => exact rfl); (case aB => exact sqB); (case aF => exact (fun _ _ => trivial)); (case aO => exact (sqR HO_3.out)); (case aS => exact (zJ sqB)); (case aL => have := LMc12.out; omega); intro v350 w14 ho hb hg hat; rw [← Ny349.out] at ho; have n0_ := Aside0.mk (zX (g := gb344) (o := .cells #[.int .i64 a0_0, .int .i64 a0_1, .int .i64 a0_2, .slice (some ad348) l0_3.length c0_3] 27 (0, 0)) (sqK BK344.out) hg (Kd.qH HO_3.out BK344.out (by decide))); have n1_ := Aside0.mk (hb); have n2_ := Aside0.mk (ho); clear BK344; clear HB; clear HO_3; have BK344 := n0_; have HB := n1_; have HO351 := n2_; clear n0_ n1_ n2_; clear ho hb hg hat))
          go_roundg k2
          case measure => have := HK1.out; have := HK2.out; omega
          case rel => exact ⟨(y349), (wrap64 (x4_1 + 1)), (sqD), H', ⟨by have := HK1.out; have := HK2.out; omega⟩, ⟨sqR HO351.out⟩, ⟨sqK BK344.out⟩, ⟨sqB⟩⟩
         ·rw [if_neg c12] at H
          exact absurd H (by simp)
       ·rw [if_neg c9] at H
        exact absurd H (by simp)
      ·rw [if_neg c8] at H
       exact absurd H (by simp)
   ·rw [if_neg c5] at H
    have c5b0 : decide (x4_1 < a0_1) = false := decide_eq_false c5
    clear c5
    obtain rfl := Option.some.inj H
    have hcz15_0 : wr.cell? ⟨gb344, 0, none⟩ = some (.int .i64 a0_0) := (zb BK344.out 0).trans rfl
    have hcz15_1 : wr.cell? ⟨gb344, 1, none⟩ = some (.int .i64 a0_1) := (zb BK344.out 1).trans rfl
    have hcz15_2 : wr.cell? ⟨gb344, 2, none⟩ = some (.int .i64 a0_2) := (zb BK344.out 2).trans rfl
    have hcz15_3 : wr.cell? ⟨gb344, 3, none⟩ = some (.slice A0_3 l0_3.length c0_3) := (zb BK344.out 3).trans rfl
    have hfz15_0 := za BK344.out 0; have hfz15_1 := za BK344.out 1; have hfz15_2 := za BK344.out 2; have hfz15_3 := za BK344.out 3
    go_wp2
    go_ret
    exact ⟨_, sqE, sqR HO_3.out, sqB⟩

def qu.l0 : Nat → List Int → Int → Int → Option (Bool)
 | 0, _, _, _ => none
 | k + 1, x0, x1, x5 => if x5 < (x0.length : Int) then (if 0 ≤ x5 then (if (rd x0 x5) = x1 then (some true) else (qu.l0 k x0 x1 (wrap64 (x5 + 1)))) else (none)) else (some false)
def qu.f (k : Nat) (l0 : List Int) (a1 : Int) : Option (Bool) := qu.l0 k l0 a1 0
theorem qu.calls (k : Nat) (A0 : Option Addr) (c0 : Nat) (l0 : List Int) (a1 : Int) (r : Bool) (w : World) (hr0 : Kd.C (Kd.int .i64) w A0 l0.length l0) (hc0 : l0.length ≤ c0) (h : qu.f k l0 a1 = some r) :
  Calls Try.prog 64 #[.slice A0 l0.length c0, .int .i64 a1] w fun e w' => e = .returned (.bool r) ∧ zw w w' := by
 have HR0 := Aside0.mk hr0
 have HC0 := Aside0.mk hc0
 clear hr0 hc0
 have H : (qu.l0 k l0 a1 0) = some r := h
 clear h
 have H' := Aside0.mk H
 clear H
 go_enter Try.func64, Try.ntmps64
 go_wp2
 go_loopg [5] k (fun kq v5 w' => ∃ (x5_1 : Int), v5 = .int .i64 x5_1 ∧ Aside0 (qu.l0 kq l0 a1 x5_1 = some r) ∧ Aside0 (kq ≤ k) ∧ zw w w')
 case atStart => exact ⟨(0), (sqD), H', ⟨Nat.le_refl _⟩, by repeat (first | exact zw.refl _ | apply zw.step)⟩
 case round =>
  clear H'
  try clear p2
  obtain ⟨x5_1, rfl, HA, HK1, ⟨m1, rfl⟩⟩ := hrel
  cases gk with
  | zero => exact absurd HA.out (by simp [qu.l0])
  | succ k1 =>
   have H := HA.out
   clear HA
   simp only [qu.l0] at H
   by_cases c3 : x5_1 < (l0.length : Int)
   ·rw [if_pos c3] at H
    have c3b0 : decide (x5_1 < (l0.length : Int)) = true := decide_eq_true c3
    clear c3
    by_cases c4 : 0 ≤ x5_1
    ·rw [if_pos c4] at H
     have c4b0 : decide (0 ≤ x5_1) = true := decide_eq_true c4
     clear c4
     by_cases c5 : (rd l0 x5_1) = a1
     ·rw [if_pos c5] at H
      have c5b0 : ((rd l0 x5_1) == a1) = true := beq_iff_eq.mpr c5
      have c5b1 : ((rd l0 x5_1) != a1) = false := bne_eq_false_iff_eq.mpr c5
      clear c5
      obtain rfl := Option.some.inj H
      have p352 : 0 ≤ (x5_1 : Int) := of_decide_eq_true sqA
      have q352 : x5_1 < (l0.length : Int) := of_decide_eq_true sqA
      obtain ⟨ad352, e352, hx352_0⟩ := Kd.qh HR0.out x5_1 p352 q352
      cases e352
      replace p352 := eq_true p352
      replace q352 := eq_true q352
      go_wp2
      go_ret
      exact ⟨sqD, by repeat (first | exact zw.refl _ | apply zw.step)⟩
     ·rw [if_neg c5] at H
      have c5b0 : ((rd l0 x5_1) == a1) = false := beq_eq_false_iff_ne.mpr c5
      have c5b1 : ((rd l0 x5_1) != a1) = true := bne_iff_ne.mpr c5
      have H' := Aside0.mk H
      clear H
      have p352 : 0 ≤ (x5_1 : Int) := of_decide_eq_true sqA
      have q352 : x5_1 < (l0.length : Int) := of_decide_eq_true sqA
      obtain ⟨ad352, e352, hx352_0⟩ := Kd.qh HR0.out x5_1 p352 q352
      cases e352
      replace p352 := eq_true p352
      replace q352 := eq_true q352
      go_wp2
      go_roundg k1
      case measure => have := HK1.out; omega
      case rel => exact ⟨(wrap64 (x5_1 + 1)), (sqD), H', ⟨by have := HK1.out; omega⟩, by repeat (first | exact zw.refl _ | apply zw.step)⟩
    ·rw [if_neg c4] at H
     exact absurd H (by simp)
   ·rw [if_neg c3] at H
    have c3b0 : decide (x5_1 < (l0.length : Int)) = false := decide_eq_false c3
    clear c3
    obtain rfl := Option.some.inj H
    go_wp2
    go_ret
    exact ⟨sqD, by repeat (first | exact zw.refl _ | apply zw.step)⟩

mutual
def zr.l0 : Nat → List Int → Int → Int → Int → Int → List Int → Int → Int → Int → List Int → Int → Int → Int → List Int → Option (Int × Int × Int × List Int × Bool)
 | 0, _, _, _, _, _, _, _, _, _, _, _, _, _, _ => none
 | k + 1, x5, x7, x354000, x354001, x354002, x354003, x363000, x363001, x363002, x363003, x367000, x367001, x367002, x367003 => if x7 < x354002 then ((qu.f k x5 x7).bind fun t367 => (if t367 = true then (zr.l0 k x5 (wrap64 (x7 + 1)) x354000 x354001 x354002 x354003 x363000 x363001 x363002 x363003 x367000 x367001 x367002 x367003) else (if 0 ≤ x354002 then (if (x354002 : Int).toNat ≤ 35184372088832 then ((some (List.replicate (x354002 : Int).toNat 0 : List Int)).bind fun y368 => (if 0 ≤ x7 then (if x7 < (y368.length : Int) then (zr.l1 k x5 x7 (y368.set (x7 : Int).toNat 1) 0 x354000 x354001 x354002 x354003 x363000 x363001 x363002 x363003 x367000 x367001 x367002 x367003) else (none)) else (none))) else (none)) else (none)))) else (some (x367000, x367001, x367002, x367003, true))
def zr.l1 : Nat → List Int → Int → List Int → Int → Int → Int → Int → List Int → Int → Int → Int → List Int → Int → Int → Int → List Int → Option (Int × Int × Int × List Int × Bool)
 | 0, _, _, _, _, _, _, _, _, _, _, _, _, _, _, _, _ => none
 | k + 1, x5, x7, x8, x9, x354000, x354001, x354002, x354003, x363000, x363001, x363002, x363003, x367000, x367001, x367002, x367003 => if x9 < x363001 then (if 0 ≤ x9 then (if x9 < (x5.length : Int) then (if 0 ≤ (wrap64 ((wrap64 (x9 * x354002)) + x7)) then (if (wrap64 ((wrap64 (x9 * x354002)) + x7)) < (x363003.length : Int) then (if x354000 = 0 then (none) else (if 0 ≤ (rd x5 x9) then (if (rd x5 x9) < (x8.length : Int) then (zr.l1 k x5 x7 (x8.set ((rd x5 x9) : Int).toNat (Int.tmod (wrap64 (x354000 - (rd x363003 (wrap64 ((wrap64 (x9 * x354002)) + x7))))) x354000)) (wrap64 (x9 + 1)) x354000 x354001 x354002 x354003 x363000 x363001 x363002 x363003 x367000 x367001 x367002 x367003) else (none)) else (none))) else (none)) else (none)) else (none)) else (none)) else (if x367003.length + x8.length < 17592186044416 then (zr.l0 k x5 (wrap64 (x7 + 1)) x354000 x354001 x354002 x354003 x363000 x363001 x363002 x363003 x367000 (wrap64 (x367001 + 1)) x367002 (x367003 ++ x8)) else (none))
end
def zr.f (k : Nat) (a0_0 : Int) (a0_1 : Int) (a0_2 : Int) (l0_3 : List Int) : Option (Int × Int × Int × List Int × Bool) := (zq.f k a0_0 a0_1 a0_2 l0_3).bind fun t355 => (if t355 = true then ((zk.f k a0_0 a0_1 a0_2 l0_3).bind fun bt356 => ((zH.f k bt356.1 bt356.2.1 bt356.2.2.1 bt356.2.2.2).bind fun t363 => (zr.l0 k t363 0 a0_0 a0_1 a0_2 l0_3 bt356.1 bt356.2.1 bt356.2.2.1 bt356.2.2.2 a0_0 0 a0_2 ([] : List Int)))) else (some (0, 0, 0, ([] : List Int), false)))
def zr.T15 : Bool × List (List Nat × List Nat) := (true, [([], []), ([], []), ([], []), ([1, 2], [1, 2]), ([3], [3]), ([], []), ([5], [5]), ([], []), ([7], [7]), ([], []), ([], []), ([10], [10]), ([9, 11], [9, 11]), ([], []), ([12, 13], [12, 13]), ([8, 14], [8, 14]), ([15], [15]), ([6, 16], [6, 16]), ([], []), ([18], [18]), ([17, 19], [17, 19]), ([0, 4, 0, 1, 2, 3, 4, 5, 6, 7, 8, 9, 10, 11, 12, 13, 14, 15, 16, 17, 18, 19, 20], [0, 4]), ([21, 20, 0, 1, 2, 3, 4, 5, 6, 7, 8, 9, 10, 11, 12, 13, 14, 15, 16, 17, 18, 19, 20], [20, 21])])
def zr.B15 : List Nat := [0, 0, 0, 6, 14, 0, 32, 0, 128, 0, 0, 1024, 3584, 0, 15872, 32640, 65408, 131040, 0, 262144, 1048544, 2097151, 4194303]
theorem zr.Vo : jQ .any (opsOf Try.f34 15) = zr.T15 := by kernel_rfl
theorem zr.Jl : jf zr.T15.2 zr.B15 = true := by kernel_rfl
theorem zr.calls (k : Nat) (a0_0 : Int) (a0_1 : Int) (a0_2 : Int) (A0_3 : Option Addr) (c0_3 : Nat) (l0_3 : List Int) (r1 : Int) (r2 : Int) (r3 : Int) (r4 : List Int) (r5 : Bool) (w : World) (hr0_3 : Kd.C (Kd.int .i64) w A0_3 l0_3.length l0_3) (hc0_3 : l0_3.length ≤ c0_3) (h : zr.f k a0_0 a0_1 a0_2 l0_3 = some (r1, r2, r3, r4, r5)) :
  Calls Try.prog 34 #[.agg #[.int .i64 a0_0, .int .i64 a0_1, .int .i64 a0_2, .slice A0_3 l0_3.length c0_3]] w fun e w' => ∃ v3_ : Value, e = .returned (.tuple #[.agg #[.int .i64 r1, .int .i64 r2, .int .i64 r3, v3_], .bool r5]) ∧ Kd.R (Kd.int .i64) 3 w' w.heap.size (fun _ => True) v3_ r4 ∧ Below w.heap.size w w' := by
 have hu27 := Try.underlying27
 have HR0_3 := Aside0.mk hr0_3
 have HC0_3 := Aside0.mk hc0_3
 clear hr0_3 hc0_3
 have HB := Aside0.mk (Below.refl w.heap.size w)
 have H : ((zq.f k a0_0 a0_1 a0_2 l0_3).bind fun t355 => (if t355 = true then ((zk.f k a0_0 a0_1 a0_2 l0_3).bind fun bt356 => ((zH.f k bt356.1 bt356.2.1 bt356.2.2.1 bt356.2.2.2).bind fun t363 => (zr.l0 k t363 0 a0_0 a0_1 a0_2 l0_3 bt356.1 bt356.2.1 bt356.2.2.1 bt356.2.2.2 a0_0 0 a0_2 ([] : List Int)))) else (some (0, 0, 0, ([] : List Int), false)))) = some (r1, r2, r3, r4, r5) := h
 clear h
 replace H := Option.bind_eq_some_iff.mp H
 obtain ⟨t355, A20, H⟩ := H
 replace H : (if t355 = true then ((zk.f k a0_0 a0_1 a0_2 l0_3).bind fun bt356 => ((zH.f k bt356.1 bt356.2.1 bt356.2.2.1 bt356.2.2.2).bind fun t363 => (zr.l0 k t363 0 a0_0 a0_1 a0_2 l0_3 bt356.1 bt356.2.1 bt356.2.2.1 bt356.2.2.2 a0_0 0 a0_2 ([] : List Int)))) else (some (0, 0, 0, ([] : List Int), false))) = some (r1, r2, r3, r4, r5) := H
 have A2 := Aside0.mk A20
 clear A20
 by_cases c3 : t355 = true
 ·subst c3
  have H1 : ((zk.f k a0_0 a0_1 a0_2 l0_3).bind fun bt356 => ((zH.f k bt356.1 bt356.2.1 bt356.2.2.1 bt356.2.2.2).bind fun t363 => (zr.l0 k t363 0 a0_0 a0_1 a0_2 l0_3 bt356.1 bt356.2.1 bt356.2.2.1 bt356.2.2.2 a0_0 0 a0_2 ([] : List Int)))) = some (r1, r2, r3, r4, r5) := by rw [if_pos rfl] at H; exact H
  clear H
  have H := H1
  clear H1
  replace H := Option.bind_eq_some_iff.mp H
  obtain ⟨⟨t356, t357, t358, t359⟩, A40, H⟩ := H
  replace H : ((zH.f k t356 t357 t358 t359).bind fun t363 => (zr.l0 k t363 0 a0_0 a0_1 a0_2 l0_3 t356 t357 t358 t359 a0_0 0 a0_2 ([] : List Int))) = some (r1, r2, r3, r4, r5) := H
  have A4 := Aside0.mk A40
  clear A40
  replace H := Option.bind_eq_some_iff.mp H
  obtain ⟨t363, A50, H⟩ := H
  replace H : (zr.l0 k t363 0 a0_0 a0_1 a0_2 l0_3 t356 t357 t358 t359 a0_0 0 a0_2 ([] : List Int)) = some (r1, r2, r3, r4, r5) := H
  have A5 := Aside0.mk A50
  clear A50
  have H' := Aside0.mk H
  clear H
  go_enter Try.func34, Try.ntmps34
  go_wp2_with (first | ((with_reducible refine zC (N := 1) rfl ?_); refine zD ?hg (N := 1) ?hd (cs := #[.int .i64 a0_0, .int .i64 a0_1, .int .i64 a0_2, .slice A0_3 l0_3.length c0_3]) (t := 27) ?hr ?_; (case hd => rfl); (case hg => rfl); (case hr => exact sqG); intro gb353 hg w6 hbox hb; have n0_ := Aside0.mk (zg sqB hb); have n1_ := Aside0.mk (hbox); have n2_ := Aside0.mk ((sqS hg : w.heap.size ≤ gb353)); have n3_ := Aside0.mk ((sqS hg : w.heap.size ≤ gb353)); clear HB; have HB := n0_; have BK353 := n1_; have GW353 := n2_; have GE353 := n3_; clear n0_ n1_ n2_ n3_; clear hb hbox hg) | ((with_reducible refine zC (N := 2) rfl ?_); refine zD ?hg (N := 2) ?hd (cs := #[.int .i64 0, .int .i64 0, .int .i64 0, .slice none 0 0]) (t := 27) ?hr ?_; (case hd => rfl); (case hg => rfl); (case hr => exact sqG); intro gb354 hg w7 hbox hb; have n0_ := Aside0.mk (ze (g := gb353) (o := .cells #[.int .i64 a0_0, .int .i64 a0_1, .int .i64 a0_2, .slice A0_3 l0_3.length c0_3] 27 (0, 0)) (sqK BK353.out) hb); have n1_ := Aside0.mk (zg sqB hb); have n2_ := Aside0.mk (hbox); have n3_ := Aside0.mk ((sqS hg : w.heap.size ≤ gb354)); have n4_ := Aside0.mk ((sqS hg : w.heap.size ≤ gb354)); have n5_ := Aside0.mk ((by rw [hg]; exact Nat.ne_of_lt (zI (g := gb353) (o := .cells #[.int .i64 a0_0, .int .i64 a0_1, .int .i64 a0_2, .slice A0_3 l0_3.length c0_3] 27 (0, 0)) (sqK BK353.out)) : gb353 ≠ gb354)); have n6_ := Aside0.mk ((by rw [hg]; exact Nat.ne_of_gt (zI (g := gb353) (o := .cells #[.int .i64 a0_0, .int .i64 a0_1, .int .i64 a0_2, .slice A0_3 l0_3.length c0_3] 27 (0, 0)) (sqK BK353.out)) : gb354 ≠ gb353)); clear BK353; clear HB; have BK353 := n0_; have HB := n1_; have BK354 := n2_; have GW354 := n3_; have GE354 := n4_; have NB353_354 := n5_; have NB354_353 := n6_; clear n0_ n1_ n2_ n3_ n4_ n5_ n6_; clear hb hbox hg; have hnb8 := NB353_354.out; have hnc8 := NB354_353.out; have hcz9_0 : w7.cell? ⟨gb353, 0, none⟩ = some (.int .i64 a0_0) := (zb BK353.out 0).trans rfl; have hcz9_1 : w7.cell? ⟨gb353, 1, none⟩ = some (.int .i64 a0_1) := (zb BK353.out 1).trans rfl; have hcz9_2 : w7.cell? ⟨gb353, 2, none⟩ = some (.int .i64 a0_2) := (zb BK353.out 2).trans rfl; have hcz9_3 : w7.cell? ⟨gb353, 3, none⟩ = some (.slice A0_3 l0_3.length c0_3) := (zb BK353.out 3).trans rfl; have hfz9_0 := za BK353.out 0; have hfz9_1 := za BK353.out 1; have hfz9_2 := za BK353.out 2; have hfz9_3 := za BK353.out 3) | ((with_reducible refine zp (f := 37) rfl ?_); refine zP (some 11) rfl rfl Try.func37 (by kernel_rfl) rfl #[.agg #[.int .i64 a0_0, .int .i64 a0_1, .int .i64 a0_2, .slice A0_3 l0_3.length c0_3]] rfl sqM ?_; (with_reducible refine (zq.calls k a0_0 a0_1 a0_2 _ _ l0_3 true _ ?side1 ?side2 A2.out).mono ?_); (case side1 => exact sqC (Kd.z1 HR0_3.out HB.out)); (case side2 => exact HC0_3.out); rintro e w10 ⟨rfl, hb⟩; refine ⟨_, rfl, ?_⟩; have n0_ := Aside0.mk (ze (g := gb353) (o := .cells #[.int .i64 a0_0, .int .i64 a0_1, .int .i64 a0_2, .slice A0_3 l0_3.length c0_3] 27 (0, 0)) (sqK BK353.out) hb); have n1_ := Aside0.mk (ze (g := gb354) (o := .cells #[.int .i64 0, .int .i64 0, .int .i64 0, .slice none 0 0] 27 (0, 0)) (sqK BK354.out) hb); have n2_ := Aside0.mk (zg sqB hb); clear BK353; clear BK354; clear HB; have BK353 := n0_; have BK354 := n1_; have HB := n2_; clear n0_ n1_ n2_; (try clear hb); (try clear hb2); (try clear hk); (try clear hi); have hcz11_0 : w10.cell? ⟨gb353, 0, none⟩ = some (.int .i64 a0_0) := (zb BK353.out 0).trans rfl; have hcz11_1 : w10.cell? ⟨gb353, 1, none⟩ = some (.int .i64 a0_1) := (zb BK353.out 1).trans rfl; have hcz11_2 : w10.cell? ⟨gb353, 2, none⟩ = some (.int .i64 a0_2) := (zb BK353.out 2).trans rfl; have hcz11_3 : w10.cell? ⟨gb353, 3, none⟩ = some (.slice A0_3 l0_3.length c0_3) := (zb BK353.out 3).trans rfl; have hfz11_0 := za BK353.out 0; have hfz11_1 := za BK353.out 1; have hfz11_2 := za BK353.out 2; have hfz11_3 := za BK353.out 3) | ((with_reducible refine zp (f := 32) rfl ?_); refine zP (some 15) rfl rfl Try.func32 (by kernel_rfl) rfl #[.agg #[.int .i64 a0_0, .int .i64 a0_1, .int .i64 a0_2, .slice A0_3 l0_3.length c0_3]] rfl sqM ?_; (with_reducible refine (zk.calls k a0_0 a0_1 a0_2 _ _ l0_3 t356 t357 t358 t359 _ ?side1 ?side2 A4.out).mono ?_); (case side1 => exact sqC (Kd.z1 HR0_3.out HB.out)); (case side2 => exact HC0_3.out); rintro e w12 ⟨v360, rfl, ho0, hb⟩; refine ⟨_, rfl, ?_⟩; have n0_ := Aside0.mk (Kd.qo ho0 (zJ sqB)); have n1_ := Aside0.mk (ze (g := gb353) (o := .cells #[.int .i64 a0_0, .int .i64 a0_1, .int .i64 a0_2, .slice A0_3 l0_3.length c0_3] 27 (0, 0)) (sqK BK353.out) hb); have n2_ := Aside0.mk (ze (g := gb354) (o := .cells #[.int .i64 0, .int .i64 0, .int .i64 0, .slice none 0 0] 27 (0, 0)) (sqK BK354.out) hb); have n3_ := Aside0.mk (zg sqB hb); clear BK353; clear BK354; clear HB; have HO361 := n0_; have BK353 := n1_; have BK354 := n2_; have HB := n3_; clear n0_ n1_ n2_ n3_; (try clear hb); (try clear hb2); (try clear hk); (try clear hi); (try clear ho0)) | ((with_reducible refine zC (N := 4) rfl ?_); refine zD ?hg (N := 4) ?hd (cs := #[.int .i64 0, .int .i64 0, .int .i64 0, .slice none 0 0]) (t := 27) ?hr ?_; (case hd => rfl); (case hg => rfl); (case hr => exact sqG); intro gb362 hg w13 hbox hb; have n0_ := Aside0.mk (Kd.zG (sqR HO361.out) hb); have n1_ := Aside0.mk (ze (g := gb353) (o := .cells #[.int .i64 a0_0, .int .i64 a0_1, .int .i64 a0_2, .slice A0_3 l0_3.length c0_3] 27 (0, 0)) (sqK BK353.out) hb); have n2_ := Aside0.mk (ze (g := gb354) (o := .cells #[.int .i64 0, .int .i64 0, .int .i64 0, .slice none 0 0] 27 (0, 0)) (sqK BK354.out) hb); have n3_ := Aside0.mk (zg sqB hb); have n4_ := Aside0.mk (hbox); have n5_ := Aside0.mk ((sqS hg : w.heap.size ≤ gb362)); have n6_ := Aside0.mk ((sqS hg : w.heap.size ≤ gb362)); have n7_ := Aside0.mk ((by rw [hg]; exact Nat.ne_of_lt (zI (g := gb353) (o := .cells #[.int .i64 a0_0, .int .i64 a0_1, .int .i64 a0_2, .slice A0_3 l0_3.length c0_3] 27 (0, 0)) (sqK BK353.out)) : gb353 ≠ gb362)); have n8_ := Aside0.mk ((by rw [hg]; exact Nat.ne_of_gt (zI (g := gb353) (o := .cells #[.int .i64 a0_0, .int .i64 a0_1, .int .i64 a0_2, .slice A0_3 l0_3.length c0_3] 27 (0, 0)) (sqK BK353.out)) : gb362 ≠ gb353)); have n9_ := Aside0.mk ((by rw [hg]; exact Nat.ne_of_lt (zI (g := gb354) (o := .cells #[.int .i64 0, .int .i64 0, .int .i64 0, .slice none 0 0] 27 (0, 0)) (sqK BK354.out)) : gb354 ≠ gb362)); have n10_ := Aside0.mk ((by rw [hg]; exact Nat.ne_of_gt (zI (g := gb354) (o := .cells #[.int .i64 0, .int .i64 0, .int .i64 0, .slice none 0 0] 27 (0, 0)) (sqK BK354.out)) : gb362 ≠ gb354)); clear HO361; clear BK353; clear BK354; clear HB; have HO361 := n0_; have BK353 := n1_; have BK354 := n2_; have HB := n3_; have BK362 := n4_; have GW362 := n5_; have GE362 := n6_; have NB353_362 := n7_; have NB362_353 := n8_; have NB354_362 := n9_; have NB362_354 := n10_; clear n0_ n1_ n2_ n3_ n4_ n5_ n6_ n7_ n8_ n9_ n10_; clear hb hbox hg; have hnb14 := NB362_353.out; have hnc14 := NB353_362.out; have hnb15 := NB362_354.out; have hnc15 := NB354_362.out; have hcz16_0 : w13.cell? ⟨gb362, 0, none⟩ = some (.int .i64 0) := (zb BK362.out 0).trans rfl; have hcz16_1 : w13.cell? ⟨gb362, 1, none⟩ = some (.int .i64 0) := (zb BK362.out 1).trans rfl; have hcz16_2 : w13.cell? ⟨gb362, 2, none⟩ = some (.int .i64 0) := (zb BK362.out 2).trans rfl; have hcz16_3 : w13.cell? ⟨gb362, 3, none⟩ = some (.slice none 0 0) := (zb BK362.out 3).trans rfl; have hfz16_0 := za BK362.out 0; have hfz16_1 := za BK362.out 1; have hfz16_2 := za BK362.out 2; have hfz16_3 := za BK362.out 3; obtain ⟨Ao17, co17, eo17⟩ := Kd.zU HO361.out; subst eo17) | ((with_reducible refine zp (f := 63) rfl ?_); refine zP (some 17) rfl rfl Try.func63 (by kernel_rfl) rfl #[.agg #[.int .i64 t356, .int .i64 t357, .int .i64 t358, .slice Ao17 t359.length co17]] rfl sqM ?_; (with_reducible refine (zH.calls k t356 t357 t358 _ _ t359 t363 _ ?side1 ?side2 A5.out).mono ?_); (case side1 => refine (Kd.zu (e := 3) (base := w.heap.size) (ok := fun k_ => True) (n := t359.length) (c := co17) ?_).2.2; exact (by refine sqR ?_; exact (Kd.zo (Kd.zj (p := ⟨gb362, 3, none⟩) (Kd.zj (p := ⟨gb362, 2, none⟩) (Kd.zj (p := ⟨gb362, 1, none⟩) (Kd.zj (p := ⟨gb362, 0, none⟩) (Kd.zF HO361.out BK362.out (by decide)) (fun _ hk => hk.2) (.int .i64 t356)) (fun _ hk => hk.2) (.int .i64 t357)) (fun _ hk => hk.2) (.int .i64 t358)) (fun _ hk => hk.2) (.slice Ao17 t359.length co17)) (fun _ h_ => h_.1)))); (case side2 => exact (Kd.zu HO361.out).2.1); rintro e w18 ⟨v364, rfl, ho0, hb⟩; refine ⟨_, rfl, ?_⟩; have n0_ := Aside0.mk (Kd.qg (by refine sqR ?_; exact (Kd.zo (Kd.zj (p := ⟨gb362, 3, none⟩) (Kd.zj (p := ⟨gb362, 2, none⟩) (Kd.zj (p := ⟨gb362, 1, none⟩) (Kd.zj (p := ⟨gb362, 0, none⟩) (Kd.zF HO361.out BK362.out (by decide)) (fun _ hk => hk.2) (.int .i64 t356)) (fun _ hk => hk.2) (.int .i64 t357)) (fun _ hk => hk.2) (.int .i64 t358)) (fun _ hk => hk.2) (.slice Ao17 t359.length co17)) (fun _ h_ => h_.1))) (Kd.qC ho0) hb); have n1_ := Aside0.mk (Kd.qo (Kd.qG ho0 (Kd.jg (by refine sqR ?_; exact (Kd.zo (Kd.zj (p := ⟨gb362, 3, none⟩) (Kd.zj (p := ⟨gb362, 2, none⟩) (Kd.zj (p := ⟨gb362, 1, none⟩) (Kd.zj (p := ⟨gb362, 0, none⟩) (Kd.zF HO361.out BK362.out (by decide)) (fun _ hk => hk.2) (.int .i64 t356)) (fun _ hk => hk.2) (.int .i64 t357)) (fun _ hk => hk.2) (.int .i64 t358)) (fun _ hk => hk.2) (.slice Ao17 t359.length co17)) (fun _ h_ => h_.1))))) (zJ sqB)); have n2_ := Aside0.mk (ze (g := gb353) (o := .cells #[.int .i64 a0_0, .int .i64 a0_1, .int .i64 a0_2, .slice A0_3 l0_3.length c0_3] 27 (0, 0)) (by refine sqK ?_; refine zi ?_ NB353_362.out _; refine sqK ?_; refine zi ?_ NB353_362.out _; refine sqK ?_; refine zi ?_ NB353_362.out _; refine sqK ?_; refine zi ?_ NB353_362.out _; refine sqK ?_; exact BK353.out) hb); have n3_ := Aside0.mk (ze (g := gb354) (o := .cells #[.int .i64 0, .int .i64 0, .int .i64 0, .slice none 0 0] 27 (0, 0)) (by refine sqK ?_; refine zi ?_ NB354_362.out _; refine sqK ?_; refine zi ?_ NB354_362.out _; refine sqK ?_; refine zi ?_ NB354_362.out _; refine sqK ?_; refine zi ?_ NB354_362.out _; refine sqK ?_; exact BK354.out) hb); have n4_ := Aside0.mk (ze (g := gb362) (o := .cells #[.int .i64 t356, .int .i64 t357, .int .i64 t358, .slice Ao17 t359.length co17] 27 (0, 0)) (by refine sqK ?_; refine zy (cs := #[.int .i64 t356, .int .i64 t357, .int .i64 t358, .slice none 0 0]) ?_ 3 _ rfl; refine sqK ?_; refine zy (cs := #[.int .i64 t356, .int .i64 t357, .int .i64 0, .slice none 0 0]) ?_ 2 _ rfl; refine sqK ?_; refine zy (cs := #[.int .i64 t356, .int .i64 0, .int .i64 0, .slice none 0 0]) ?_ 1 _ rfl; refine sqK ?_; refine zy (cs := #[.int .i64 0, .int .i64 0, .int .i64 0, .slice none 0 0]) ?_ 0 _ rfl; refine sqK ?_; exact BK362.out) hb); have n5_ := Aside0.mk (zg sqB hb); clear HO361; clear BK353; clear BK354; clear BK362; clear HB; have HO361 := n0_; have HO365 := n1_; have BK353 := n2_; have BK354 := n3_; have BK362 := n4_; have HB := n5_; clear n0_ n1_ n2_ n3_ n4_ n5_; (try clear hb); (try clear hb2); (try clear hk); (try clear hi); (try clear ho0); have hcz19_0 : w18.cell? ⟨gb353, 0, none⟩ = some (.int .i64 a0_0) := (zb BK353.out 0).trans rfl; have hcz19_1 : w18.cell? ⟨gb353, 1, none⟩ = some (.int .i64 a0_1) := (zb BK353.out 1).trans rfl; have hcz19_2 : w18.cell? ⟨gb353, 2, none⟩ = some (.int .i64 a0_2) := (zb BK353.out 2).trans rfl; have hcz19_3 : w18.cell? ⟨gb353, 3, none⟩ = some (.slice A0_3 l0_3.length c0_3) := (zb BK353.out 3).trans rfl; have hfz19_0 := za BK353.out 0; have hfz19_1 := za BK353.out 1; have hfz19_2 := za BK353.out 2; have hfz19_3 := za BK353.out 3) | ((with_reducible refine zC (N := 6) rfl ?_); refine zD ?hg (N := 6) ?hd (cs := #[.int .i64 0, .int .i64 0, .int .i64 0, .slice none 0 0]) (t := 27) ?hr ?_; (case hd => rfl); (case hg => rfl); (case hr => exact sqG); intro gb366 hg w20 hbox hb; have n0_ := Aside0.mk (Kd.zG (sqR HO361.out) hb); have n1_ := Aside0.mk (Kd.zG (sqR HO365.out) hb); have n2_ := Aside0.mk (ze (g := gb353) (o := .cells #[.int .i64 a0_0, .int .i64 a0_1, .int .i64 a0_2, .slice A0_3 l0_3.length c0_3] 27 (0, 0)) (sqK BK353.out) hb); have n3_ := Aside0.mk (ze (g := gb354) (o := .cells #[.int .i64 0, .int .i64 0, .int .i64 0, .slice none 0 0] 27 (0, 0)) (sqK BK354.out) hb); have n4_ := Aside0.mk (ze (g := gb362) (o := .cells #[.int .i64 t356, .int .i64 t357, .int .i64 t358, .slice Ao17 t359.length co17] 27 (0, 0)) (sqK BK362.out) hb); have n5_ := Aside0.mk (zg sqB hb); have n6_ := Aside0.mk (hbox); have n7_ := Aside0.mk ((sqS hg : w.heap.size ≤ gb366)); have n8_ := Aside0.mk ((sqS hg : w.heap.size ≤ gb366)); have n9_ := Aside0.mk ((by rw [hg]; exact Nat.ne_of_lt (zI (g := gb353) (o := .cells #[.int .i64 a0_0, .int .i64 a0_1, .int .i64 a0_2, .slice A0_3 l0_3.length c0_3] 27 (0, 0)) (sqK BK353.out)) : gb353 ≠ gb366)); have n10_ := Aside0.mk ((by rw [hg]; exact Nat.ne_of_gt (zI (g := gb353) (o := .cells #[.int .i64 a0_0, .int .i64 a0_1, .int .i64 a0_2, .slice A0_3 l0_3.length c0_3] 27 (0, 0)) (sqK BK353.out)) : gb366 ≠ gb353)); have n11_ := Aside0.mk ((by rw [hg]; exact Nat.ne_of_lt (zI (g := gb354) (o := .cells #[.int .i64 0, .int .i64 0, .int .i64 0, .slice none 0 0] 27 (0, 0)) (sqK BK354.out)) : gb354 ≠ gb366)); have n12_ := Aside0.mk ((by rw [hg]; exact Nat.ne_of_gt (zI (g := gb354) (o := .cells #[.int .i64 0, .int .i64 0, .int .i64 0, .slice none 0 0] 27 (0, 0)) (sqK BK354.out)) : gb366 ≠ gb354)); have n13_ := Aside0.mk ((by rw [hg]; exact Nat.ne_of_lt (zI (g := gb362) (o := .cells #[.int .i64 t356, .int .i64 t357, .int .i64 t358, .slice Ao17 t359.length co17] 27 (0, 0)) (sqK BK362.out)) : gb362 ≠ gb366)); have n14_ := Aside0.mk ((by rw [hg]; exact Nat.ne_of_gt (zI (g := gb362) (o := .cells #[.int .i64 t356, .int .i64 t357, .int .i64 t358, .slice Ao17 t359.length co17] 27 (0, 0)) (sqK BK362.out)) : gb366 ≠ gb362)); clear HO361; clear HO365; clear BK353; clear BK354; clear BK362; clear HB; have HO361 := n0_; have HO365 := n1_; have BK353 := n2_; have BK354 := n3_; have BK362 := n4_; have HB := n5_; have BK366 := n6_; have GW366 := n7_; have GE366 := n8_; have NB353_366 := n9_; have NB366_353 := n10_; have NB354_366 := n11_; have NB366_354 := n12_; have NB362_366 := n13_; have NB366_362 := n14_; clear n0_ n1_ n2_ n3_ n4_ n5_ n6_ n7_ n8_ n9_ n10_ n11_ n12_ n13_ n14_; clear hb hbox hg; have hnb21 := NB366_353.out; have hnc21 := NB353_366.out; have hnb22 := NB366_354.out; have hnc22 := NB354_366.out; have hnb23 := NB366_362.out; have hnc23 := NB362_366.out; have hcz24_0 : w20.cell? ⟨gb366, 0, none⟩ = some (.int .i64 0) := (zb BK366.out 0).trans rfl; have hcz24_1 : w20.cell? ⟨gb366, 1, none⟩ = some (.int .i64 0) := (zb BK366.out 1).trans rfl; have hcz24_2 : w20.cell? ⟨gb366, 2, none⟩ = some (.int .i64 0) := (zb BK366.out 2).trans rfl; have hcz24_3 : w20.cell? ⟨gb366, 3, none⟩ = some (.slice none 0 0) := (zb BK366.out 3).trans rfl; have hfz24_0 := za BK366.out 0; have hfz24_1 := za BK366.out 1; have hfz24_2 := za BK366.out 2; have hfz24_3 := za BK366.out 3))
  go_loopg [7] k (fun kq v7 w' => ∃ (x5_1 : List Int) (x7_1 : Int) (x363003_1 : List Int) (x367001_1 : Int) (x367003_1 : List Int) (u363003 : Value) (u367003 : Value), v7 = .int .i64 x7_1 ∧ Aside0 (zr.l0 kq x5_1 x7_1 a0_0 a0_1 a0_2 l0_3 t356 t357 t358 x363003_1 a0_0 x367001_1 a0_2 x367003_1 = some (r1, r2, r3, r4, r5)) ∧ Aside0 (kq ≤ k) ∧ Aside0 (Kd.R (Kd.int .i64) 3 w' w.heap.size (fun k_ => some k_ ≠ (u363003 : Value).ownBlock ∧ some k_ ≠ (u367003 : Value).ownBlock) v364 x5_1) ∧ Aside0 (Kd.R (Kd.int .i64) 3 w' w.heap.size (fun k_ => some k_ ≠ (v364 : Value).ownBlock ∧ some k_ ≠ (u367003 : Value).ownBlock) u363003 x363003_1) ∧ Aside0 (Kd.R (Kd.int .i64) 3 w' w.heap.size (fun k_ => some k_ ≠ (v364 : Value).ownBlock ∧ some k_ ≠ (u363003 : Value).ownBlock) u367003 x367003_1) ∧ Aside0 (w'.heap[gb353]? = some (.cells #[.int .i64 a0_0, .int .i64 a0_1, .int .i64 a0_2, (.slice A0_3 l0_3.length c0_3)] 27 (0, 0))) ∧ Aside0 (w'.heap[gb354]? = some (.cells #[.int .i64 0, .int .i64 0, .int .i64 0, (.slice none 0 0)] 27 (0, 0))) ∧ Aside0 (w'.heap[gb362]? = some (.cells #[.int .i64 t356, .int .i64 t357, .int .i64 t358, u363003] 27 (0, 0))) ∧ Aside0 (w'.heap[gb366]? = some (.cells #[.int .i64 a0_0, .int .i64 x367001_1, .int .i64 a0_2, u367003] 27 (0, 0))) ∧ Aside0 (Below w.heap.size w w'))
  case atStart => exact ⟨(t363), (0), (t359), (0), (([] : List Int)), (.slice Ao17 t359.length co17), (.slice none 0 0), (sqD), H', ⟨Nat.le_refl _⟩, ⟨by refine sqR ?_; exact Kd.zo (Kd.zj (p := ⟨gb366, 3, none⟩) (Kd.zj (p := ⟨gb366, 2, none⟩) (Kd.zj (p := ⟨gb366, 1, none⟩) (Kd.zj (p := ⟨gb366, 0, none⟩) (Kd.zF HO365.out BK366.out (by decide)) (fun _ hk => hk.2) (.int .i64 a0_0)) (fun _ hk => hk.2) (.int .i64 0)) (fun _ hk => hk.2) (.int .i64 a0_2)) (fun _ hk => hk.2) (.slice none 0 0)) (fun _ hk => ⟨hk.1.2, (by simp [Value.ownBlock])⟩)⟩, ⟨by refine sqR ?_; exact Kd.zo (Kd.zj (p := ⟨gb366, 3, none⟩) (Kd.zj (p := ⟨gb366, 2, none⟩) (Kd.zj (p := ⟨gb366, 1, none⟩) (Kd.zj (p := ⟨gb366, 0, none⟩) (Kd.zF HO361.out BK366.out (by decide)) (fun _ hk => hk.2) (.int .i64 a0_0)) (fun _ hk => hk.2) (.int .i64 0)) (fun _ hk => hk.2) (.int .i64 a0_2)) (fun _ hk => hk.2) (.slice none 0 0)) (fun _ hk => ⟨hk.1.2, (by simp [Value.ownBlock])⟩)⟩, ⟨sqN⟩, ⟨by refine sqK ?_; refine zi ?_ NB353_366.out _; refine sqK ?_; refine zi ?_ NB353_366.out _; refine sqK ?_; refine zi ?_ NB353_366.out _; refine sqK ?_; refine zi ?_ NB353_366.out _; refine sqK ?_; exact BK353.out⟩, ⟨by refine sqK ?_; refine zi ?_ NB354_366.out _; refine sqK ?_; refine zi ?_ NB354_366.out _; refine sqK ?_; refine zi ?_ NB354_366.out _; refine sqK ?_; refine zi ?_ NB354_366.out _; refine sqK ?_; exact BK354.out⟩, ⟨by refine sqK ?_; refine zi ?_ NB362_366.out _; refine sqK ?_; refine zi ?_ NB362_366.out _; refine sqK ?_; refine zi ?_ NB362_366.out _; refine sqK ?_; refine zi ?_ NB362_366.out _; refine sqK ?_; exact BK362.out⟩, ⟨by refine sqK ?_; refine zy (cs := #[.int .i64 a0_0, .int .i64 0, .int .i64 a0_2, .slice none 0 0]) ?_ 3 _ rfl; refine sqK ?_; refine zy (cs := #[.int .i64 a0_0, .int .i64 0, .int .i64 0, .slice none 0 0]) ?_ 2 _ rfl; refine sqK ?_; refine zy (cs := #[.int .i64 a0_0, .int .i64 0, .int .i64 0, .slice none 0 0]) ?_ 1 _ rfl; refine sqK ?_; refine zy (cs := #[.int .i64 0, .int .i64 0, .int .i64 0, .slice none 0 0]) ?_ 0 _ rfl; refine sqK ?_; exact BK366.out⟩, ⟨sqB⟩⟩
  case round =>
   clear H'
   try clear c1
   try clear c2
   try clear p2
   try clear c3
   try clear c6
   try clear c8
   try clear c14
   try clear c15
   try clear c21
   try clear c22
   try clear c23
   try clear hcz11_0
   try clear hcz11_1
   try clear hcz11_2
   try clear hcz11_3
   try clear hcz16_0
   try clear hcz16_1
   try clear hcz16_2
   try clear hcz16_3
   try clear hcz19_0
   try clear hcz19_1
   try clear hcz19_2
   try clear hcz19_3
   try clear hcz24_0
   try clear hcz24_1
   try clear hcz24_2
   try clear hcz24_3
   try clear hcz9_0
   try clear hcz9_1
   try clear hcz9_2
   try clear hcz9_3
   try clear hfz11_0
   try clear hfz11_1
   try clear hfz11_2
   try clear hfz11_3
   try clear hfz16_0
   try clear hfz16_1
   try clear hfz16_2
   try clear hfz16_3
   try clear hfz19_0
   try clear hfz19_1
   try clear hfz19_2
   try clear hfz19_3
   try clear hfz24_0
   try clear hfz24_1
   try clear hfz24_2
   try clear hfz24_3
   try clear hfz9_0
   try clear hfz9_1
   try clear hfz9_2
   try clear hfz9_3
   obtain ⟨x5_1, x7_1, x363003_1, x367001_1, x367003_1, u363003, u367003, rfl, HA, HK1, HO_5, HO_363003, HO_367003, BK353, BK354, BK362, BK366, HB⟩ := hrel
   cases gk with
   | zero => exact absurd HA.out (by simp [zr.l0])
   | succ k1 =>
    have H := HA.out
    clear HA
    simp only [zr.l0] at H
    by_cases c25 : x7_1 < a0_2
    ·rw [if_pos c25] at H
     have c25b0 : decide (x7_1 < a0_2) = true := decide_eq_true c25
     clear c25
     replace H := Option.bind_eq_some_iff.mp H
     obtain ⟨t367, A260, H⟩ := H
     replace H : (if t367 = true then (zr.l0 k1 x5_1 (wrap64 (x7_1 + 1)) a0_0 a0_1 a0_2 l0_3 t356 t357 t358 x363003_1 a0_0 x367001_1 a0_2 x367003_1) else (if 0 ≤ a0_2 then (if (a0_2 : Int).toNat ≤ 35184372088832 then ((some (List.replicate (a0_2 : Int).toNat 0 : List Int)).bind fun y368 => (if 0 ≤ x7_1 then (if x7_1 < (y368.length : Int) then (zr.l1 k1 x5_1 x7_1 (y368.set (x7_1 : Int).toNat 1) 0 a0_0 a0_1 a0_2 l0_3 t356 t357 t358 x363003_1 a0_0 x367001_1 a0_2 x367003_1) else (none)) else (none))) else (none)) else (none))) = some (r1, r2, r3, r4, r5) := H
     have A26 := Aside0.mk A260
     clear A260
     by_cases c27 : t367 = true
     ·subst c27
      have H1 : (zr.l0 k1 x5_1 (wrap64 (x7_1 + 1)) a0_0 a0_1 a0_2 l0_3 t356 t357 t358 x363003_1 a0_0 x367001_1 a0_2 x367003_1) = some (r1, r2, r3, r4, r5) := by rw [if_pos rfl] at H; exact H
      clear H
      have H := H1
      clear H1
      have H' := Aside0.mk H
      clear H
      have hnb28 := NB353_354.out
      have hnc28 := NB354_353.out
      have hnb29 := NB353_362.out
      have hnc29 := NB362_353.out
      have hnb30 := NB353_366.out
      have hnc30 := NB366_353.out
      have hcz31_0 : wr.cell? ⟨gb353, 0, none⟩ = some (.int .i64 a0_0) := (zb BK353.out 0).trans rfl
      have hcz31_1 : wr.cell? ⟨gb353, 1, none⟩ = some (.int .i64 a0_1) := (zb BK353.out 1).trans rfl
      have hcz31_2 : wr.cell? ⟨gb353, 2, none⟩ = some (.int .i64 a0_2) := (zb BK353.out 2).trans rfl
      have hcz31_3 : wr.cell? ⟨gb353, 3, none⟩ = some (.slice A0_3 l0_3.length c0_3) := (zb BK353.out 3).trans rfl
      have hfz31_0 := za BK353.out 0; have hfz31_1 := za BK353.out 1; have hfz31_2 := za BK353.out 2; have hfz31_3 := za BK353.out 3
      obtain ⟨Ao32, co32, eo32⟩ := Kd.zU HO_5.out
      subst eo32
      go_wp2_with (first | ((with_reducible refine zp (f := 64) rfl ?_); refine zP (some 31) rfl rfl Try.func64 (by kernel_rfl) rfl #[.slice Ao32 x5_1.length co32, .int .i64 x7_1] rfl sqM ?_; (with_reducible refine (qu.calls k1 _ _ x5_1 x7_1 true _ ?side1 ?side2 A26.out).mono ?_); (case side1 => exact sqC (Kd.zu HO_5.out).2.2); (case side2 => exact (Kd.zu HO_5.out).2.1); rintro e w' ⟨rfl, ⟨nd, rfl⟩⟩; refine ⟨_, rfl, ?_⟩))
      go_roundg k1
      case measure => have := HK1.out; omega
      case rel => exact ⟨(x5_1), (wrap64 (x7_1 + 1)), (x363003_1), (x367001_1), (x367003_1), (u363003), (u367003), (sqD), H', ⟨by have := HK1.out; omega⟩, ⟨sqR HO_5.out⟩, ⟨sqR HO_363003.out⟩, ⟨sqR HO_367003.out⟩, ⟨sqK BK353.out⟩, ⟨sqK BK354.out⟩, ⟨sqK BK362.out⟩, ⟨sqK BK366.out⟩, ⟨sqB⟩⟩
     ·replace c27 := Bool.eq_false_iff.mpr c27
      subst c27
      have H1 : (if 0 ≤ a0_2 then (if (a0_2 : Int).toNat ≤ 35184372088832 then ((some (List.replicate (a0_2 : Int).toNat 0 : List Int)).bind fun y368 => (if 0 ≤ x7_1 then (if x7_1 < (y368.length : Int) then (zr.l1 k1 x5_1 x7_1 (y368.set (x7_1 : Int).toNat 1) 0 a0_0 a0_1 a0_2 l0_3 t356 t357 t358 x363003_1 a0_0 x367001_1 a0_2 x367003_1) else (none)) else (none))) else (none)) else (none)) = some (r1, r2, r3, r4, r5) := by rw [if_neg (show ¬ (false = true) by decide)] at H; exact H
      clear H
      have H := H1
      clear H1
      by_cases c33 : 0 ≤ a0_2
      ·rw [if_pos c33] at H
       have c33b0 := eq_true c33
       have c33b1 : decide (0 ≤ a0_2) = true := decide_eq_true c33
       clear c33
       by_cases c34 : (a0_2 : Int).toNat ≤ 35184372088832
       ·rw [if_pos c34] at H
        have c34b0 := eq_true c34
        have c34b1 : decide ((a0_2 : Int).toNat ≤ 35184372088832) = true := decide_eq_true c34
        clear c34
        obtain ⟨y368, hy368⟩ : ∃ y_ : List Int, y_ = (List.replicate (a0_2 : Int).toNat 0) := ⟨_, rfl⟩
        replace H : (if 0 ≤ x7_1 then (if x7_1 < (y368.length : Int) then (zr.l1 k1 x5_1 x7_1 (y368.set (x7_1 : Int).toNat 1) 0 a0_0 a0_1 a0_2 l0_3 t356 t357 t358 x363003_1 a0_0 x367001_1 a0_2 x367003_1) else (none)) else (none)) = some (r1, r2, r3, r4, r5) := by first | (rw [hy368]; with_reducible exact H) | (have H2_ := (Option.bind_some _ _).symm.trans H; rw [hy368]; with_reducible exact H2_) | (have H2_ := (Option.bind_some _ _).symm.trans H; with_reducible exact H2_) | with_reducible exact H | (rw [hy368]; exact H) | exact H
        have Ny368 := Aside0.mk hy368
        clear hy368
        by_cases c35 : 0 ≤ x7_1
        ·rw [if_pos c35] at H
         have c35b0 : decide (0 ≤ x7_1) = true := decide_eq_true c35
         clear c35
         by_cases c36 : x7_1 < (y368.length : Int)
         ·rw [if_pos c36] at H
          have c36b0 : decide (x7_1 < (y368.length : Int)) = true := decide_eq_true c36
          clear c36
          obtain ⟨y371, hy371⟩ : ∃ y_ : List Int, y_ = (y368.set (x7_1 : Int).toNat 1) := ⟨_, rfl⟩
          replace H : (zr.l1 k1 x5_1 x7_1 y371 0 a0_0 a0_1 a0_2 l0_3 t356 t357 t358 x363003_1 a0_0 x367001_1 a0_2 x367003_1) = some (r1, r2, r3, r4, r5) := by first | (rw [hy371]; with_reducible exact H) | (have H2_ := (Option.bind_some _ _).symm.trans H; rw [hy371]; with_reducible exact H2_) | (have H2_ := (Option.bind_some _ _).symm.trans H; with_reducible exact H2_) | with_reducible exact H | (rw [hy371]; exact H) | exact H
          have Ny371 := Aside0.mk hy371
          clear hy371
          have H' := Aside0.mk H
          clear H
          have hnb38 := NB353_354.out
          have hnc38 := NB354_353.out
          have hnb39 := NB353_362.out
          have hnc39 := NB362_353.out
          have hnb40 := NB353_366.out
          have hnc40 := NB366_353.out
          have hcz41_0 : wr.cell? ⟨gb353, 0, none⟩ = some (.int .i64 a0_0) := (zb BK353.out 0).trans rfl
          have hcz41_1 : wr.cell? ⟨gb353, 1, none⟩ = some (.int .i64 a0_1) := (zb BK353.out 1).trans rfl
          have hcz41_2 : wr.cell? ⟨gb353, 2, none⟩ = some (.int .i64 a0_2) := (zb BK353.out 2).trans rfl
          have hcz41_3 : wr.cell? ⟨gb353, 3, none⟩ = some (.slice A0_3 l0_3.length c0_3) := (zb BK353.out 3).trans rfl
          have hfz41_0 := za BK353.out 0; have hfz41_1 := za BK353.out 1; have hfz41_2 := za BK353.out 2; have hfz41_3 := za BK353.out 3
          obtain ⟨Ao42, co42, eo42⟩ := Kd.zU HO_5.out
          subst eo42
          go_wp2_with (first | ((with_reducible refine zp (f := 64) rfl ?_); refine zP (some 31) rfl rfl Try.func64 (by kernel_rfl) rfl #[.slice Ao42 x5_1.length co42, .int .i64 x7_1] rfl sqM ?_; (with_reducible refine (qu.calls k1 _ _ x5_1 x7_1 false _ ?side1 ?side2 A26.out).mono ?_); (case side1 => exact sqC (Kd.zu HO_5.out).2.2); (case side2 => exact (Kd.zu HO_5.out).2.1); rintro e w' ⟨rfl, ⟨nd, rfl⟩⟩; refine ⟨_, rfl, ?_⟩; (try (rw [yJ wr]; generalize hq_ : World.drewN wr _ = wr; have n0_ : Aside0 (Kd.R (Kd.int .i64) 3 wr w.heap.size (fun k_ => some k_ ≠ (u367003 : Value).ownBlock ∧ some k_ ≠ (.slice Ao42 x5_1.length co42 : Value).ownBlock) u363003 x363003_1) := ⟨by rw [← hq_]; exact (by refine sqR ?_; exact Kd.zo HO_363003.out (fun _ hk => by first | exact ⟨hk.2, hk.1⟩ | (refine ⟨?_, ?_⟩ <;> intro e_ <;> simp only [e_, ne_eq, not_true_eq_false, and_false, false_and] at hk)))⟩; have n1_ : Aside0 (Kd.R (Kd.int .i64) 3 wr w.heap.size (fun k_ => some k_ ≠ (u363003 : Value).ownBlock ∧ some k_ ≠ (.slice Ao42 x5_1.length co42 : Value).ownBlock) u367003 x367003_1) := ⟨by rw [← hq_]; exact (by refine sqR ?_; exact Kd.zo HO_367003.out (fun _ hk => by first | exact ⟨hk.2, hk.1⟩ | (refine ⟨?_, ?_⟩ <;> intro e_ <;> simp only [e_, ne_eq, not_true_eq_false, and_false, false_and] at hk)))⟩; have n2_ : Aside0 (Kd.R (Kd.int .i64) 3 wr w.heap.size (fun k_ => some k_ ≠ (u363003 : Value).ownBlock ∧ some k_ ≠ (u367003 : Value).ownBlock) (.slice Ao42 x5_1.length co42) x5_1) := ⟨by rw [← hq_]; exact (sqR HO_5.out)⟩; have n3_ : Aside0 (wr.heap[gb353]? = some (.cells #[.int .i64 a0_0, .int .i64 a0_1, .int .i64 a0_2, .slice A0_3 l0_3.length c0_3] 27 (0, 0))) := ⟨by rw [← hq_]; exact (sqK BK353.out)⟩; have n4_ : Aside0 (wr.heap[gb354]? = some (.cells #[.int .i64 0, .int .i64 0, .int .i64 0, .slice none 0 0] 27 (0, 0))) := ⟨by rw [← hq_]; exact (sqK BK354.out)⟩; have n5_ : Aside0 (wr.heap[gb362]? = some (.cells #[.int .i64 t356, .int .i64 t357, .int .i64 t358, u363003] 27 (0, 0))) := ⟨by rw [← hq_]; exact (sqK BK362.out)⟩; have n6_ : Aside0 (wr.heap[gb366]? = some (.cells #[.int .i64 a0_0, .int .i64 x367001_1, .int .i64 a0_2, u367003] 27 (0, 0))) := ⟨by rw [← hq_]; exact (sqK BK366.out)⟩; have n7_ : Aside0 (Below w.heap.size w wr) := ⟨by rw [← hq_]; exact sqB⟩; clear HO_363003 HO_367003 HO_5 BK353 BK354 BK362 BK366 HB hq_; have HO_363003 := n0_; have HO_367003 := n1_; have HO_5 := n2_; have BK353 := n3_; have BK354 := n4_; have BK362 := n5_; have BK366 := n6_; have HB := n7_; clear n0_ n1_ n2_ n3_ n4_ n5_ n6_ n7_; have hczqgb353_0 : wr.cell? ⟨gb353, 0, none⟩ = some (.int .i64 a0_0) := (zb BK353.out 0).trans rfl; have hfzqgb353_0 := za BK353.out 0; have hczqgb353_1 : wr.cell? ⟨gb353, 1, none⟩ = some (.int .i64 a0_1) := (zb BK353.out 1).trans rfl; have hfzqgb353_1 := za BK353.out 1; have hczqgb353_2 : wr.cell? ⟨gb353, 2, none⟩ = some (.int .i64 a0_2) := (zb BK353.out 2).trans rfl; have hfzqgb353_2 := za BK353.out 2; have hczqgb353_3 : wr.cell? ⟨gb353, 3, none⟩ = some (.slice A0_3 l0_3.length c0_3) := (zb BK353.out 3).trans rfl; have hfzqgb353_3 := za BK353.out 3; have hczqgb354_0 : wr.cell? ⟨gb354, 0, none⟩ = some (.int .i64 0) := (zb BK354.out 0).trans rfl; have hfzqgb354_0 := za BK354.out 0; have hczqgb354_1 : wr.cell? ⟨gb354, 1, none⟩ = some (.int .i64 0) := (zb BK354.out 1).trans rfl; have hfzqgb354_1 := za BK354.out 1; have hczqgb354_2 : wr.cell? ⟨gb354, 2, none⟩ = some (.int .i64 0) := (zb BK354.out 2).trans rfl; have hfzqgb354_2 := za BK354.out 2; have hczqgb354_3 : wr.cell? ⟨gb354, 3, none⟩ = some (.slice none 0 0) := (zb BK354.out 3).trans rfl; have hfzqgb354_3 := za BK354.out 3; have hczqgb362_0 : wr.cell? ⟨gb362, 0, none⟩ = some (.int .i64 t356) := (zb BK362.out 0).trans rfl; have hfzqgb362_0 := za BK362.out 0; have hczqgb362_1 : wr.cell? ⟨gb362, 1, none⟩ = some (.int .i64 t357) := (zb BK362.out 1).trans rfl; have hfzqgb362_1 := za BK362.out 1; have hczqgb362_2 : wr.cell? ⟨gb362, 2, none⟩ = some (.int .i64 t358) := (zb BK362.out 2).trans rfl; have hfzqgb362_2 := za BK362.out 2; have hczqgb362_3 : wr.cell? ⟨gb362, 3, none⟩ = some (u363003) := (zb BK362.out 3).trans rfl; have hfzqgb362_3 := za BK362.out 3; have hczqgb366_0 : wr.cell? ⟨gb366, 0, none⟩ = some (.int .i64 a0_0) := (zb BK366.out 0).trans rfl; have hfzqgb366_0 := za BK366.out 0; have hczqgb366_1 : wr.cell? ⟨gb366, 1, none⟩ = some (.int .i64 x367001_1) := (zb BK366.out 1).trans rfl; have hfzqgb366_1 := za BK366.out 1; have hczqgb366_2 : wr.cell? ⟨gb366, 2, none⟩ = some (.int .i64 a0_2) := (zb BK366.out 2).trans rfl; have hfzqgb366_2 := za BK366.out 2; have hczqgb366_3 : wr.cell? ⟨gb366, 3, none⟩ = some (u367003) := (zb BK366.out 3).trans rfl; have hfzqgb366_3 := za BK366.out 3))) | ((with_reducible refine zC (N := 34) rfl ?_); refine Kd.Jj (Kd.int .i64) _ 3 rfl (N := 34) rfl 22 _ _ rfl a0_2 rfl rfl Try.underlying22 (.int .i64 0) 8 vt rfl (by decide) (by omega) 0 (ok := fun _ => True) (okp := fun _ => True) rfl (fun _ hk => hk) trivial (of_decide_eq_true sqA) (Nat.le_trans (Nat.mul_le_mul_right _ (of_decide_eq_true sqA : a0_2.toNat ≤ 35184372088832)) (by omega)) (Below.refl _ _) (Nat.le_refl _) ?_; intro v369 w43 ho44 hb hg_ hnew_; clear hg_ hnew_; (first | rw [← Ny368.out] at ho44 | (simp only [Int.reduceToNat] at ho44; rw [← Ny368.out] at ho44)); have n0_ := Aside0.mk (Kd.qg (sqR HO_5.out) (Kd.qC ho44) hb); have n1_ := Aside0.mk (Kd.qg (sqR HO_363003.out) (Kd.qC ho44) hb); have n2_ := Aside0.mk (Kd.qg (sqR HO_367003.out) (Kd.qC ho44) hb); have n3_ := Aside0.mk (Kd.qo (Kd.qG (Kd.qG (Kd.qG ho44 (Kd.jg (sqR HO_5.out))) (Kd.jg (sqR HO_363003.out))) (Kd.jg (sqR HO_367003.out))) (zJ sqB)); have n4_ := Aside0.mk (ze (g := gb353) (o := .cells #[.int .i64 a0_0, .int .i64 a0_1, .int .i64 a0_2, .slice A0_3 l0_3.length c0_3] 27 (0, 0)) (sqK BK353.out) hb); have n5_ := Aside0.mk (ze (g := gb354) (o := .cells #[.int .i64 0, .int .i64 0, .int .i64 0, .slice none 0 0] 27 (0, 0)) (sqK BK354.out) hb); have n6_ := Aside0.mk (ze (g := gb362) (o := .cells #[.int .i64 t356, .int .i64 t357, .int .i64 t358, u363003] 27 (0, 0)) (sqK BK362.out) hb); have n7_ := Aside0.mk (ze (g := gb366) (o := .cells #[.int .i64 a0_0, .int .i64 x367001_1, .int .i64 a0_2, u367003] 27 (0, 0)) (sqK BK366.out) hb); have n8_ := Aside0.mk (zg sqB hb); clear HO_5; clear HO_363003; clear HO_367003; clear BK353; clear BK354; clear BK362; clear BK366; clear HB; have HO_5 := n0_; have HO_363003 := n1_; have HO_367003 := n2_; have HO370 := n3_; have BK353 := n4_; have BK354 := n5_; have BK362 := n6_; have BK366 := n7_; have HB := n8_; clear n0_ n1_ n2_ n3_ n4_ n5_ n6_ n7_ n8_; clear hb ho44; have p37 : 0 ≤ (x7_1 : Int) := of_decide_eq_true sqA; have q37 : (x7_1 : Int) < ((y368.length : Int) : Int) := of_decide_eq_true sqA; obtain ⟨go37, co37, eo37, gb37, gl37, cl37, HG37⟩ := Kd.vq HO370.out (by omega); (first | cases eo37 | (injection eo37 with ea_ en_ ec_; (first | subst ea_ | (injection ea_ with ea_; subst ea_)); subst ec_; clear en_)); have GB37 := Aside0.mk gb37; have GG37 := Aside0.mk HG37; clear gb37 gl37 HG37; obtain ⟨hx37_0, hf37_0⟩ := Kd.qX 0 HO370.out (x7_1 : Int) p37 q37; replace p37 := eq_true p37; replace q37 := eq_true q37; have n_ := Aside0.mk (Kd.zo (ok' := (fun k_ => some k_ ≠ (.slice Ao42 x5_1.length co42 : Value).ownBlock ∧ some k_ ≠ (u363003 : Value).ownBlock ∧ some k_ ≠ (u367003 : Value).ownBlock)) HO370.out (fun k_ hk => ⟨hk.1.1.2, ⟨hk.1.2, hk.2⟩⟩)); clear HO370; have HO370 := n_; clear n_; obtain ⟨hy45_, hz45_⟩ := Kd.qX 0 HO370.out (x7_1 : Int) (of_decide_eq_true sqA) (of_decide_eq_true sqA); have HP45 := Kd.ye HO370.out (x7_1 : Int) 1) | ((with_reducible refine jH (t := 3) (p := 37) rfl ?_); refine jt (t := 3) (p := 37) (v := ?vo_w46) (w1 := (w43.setCell ⟨go37, (x7_1 : Int).toNat, none⟩ (.int .i64 1))) ?hg ?ho ?hn ?hr ?_; (case ho => rfl); (case hg => rfl); (case hn => rfl); (case hr => exact sqG); intro w46 hw; have hg : w43.grownBy w46 (some go37) := (by rw [hw]; exact HP45.2); have hp_ : Kd.R (Kd.int .i64) 3 w46 w.heap.size (fun k_ => some k_ ≠ (.slice Ao42 x5_1.length co42 : Value).ownBlock ∧ some k_ ≠ (u363003 : Value).ownBlock ∧ some k_ ≠ (u367003 : Value).ownBlock) (.slice (some ⟨go37, 0, none⟩) y368.length co37) y371 := (by rw [hw, Ny371.out]; exact HP45.1); clear HP45; have n0_ := Aside0.mk (Kd.qY (v := (.slice (some ⟨go37, 0, none⟩) y368.length co37)) (v1 := (.slice (some ⟨go37, 0, none⟩) y368.length co37)) (ok := (fun k_ => some k_ ≠ (u363003 : Value).ownBlock ∧ some k_ ≠ (u367003 : Value).ownBlock)) (by refine sqR ?_; first | exact HO_5.out | exact Kd.zo HO_5.out (fun _ hk => ⟨⟨hk.1.2, hk.1.1⟩, hk.2⟩)) hg (.inl rfl)); have n1_ := Aside0.mk (Kd.qY (v := (.slice (some ⟨go37, 0, none⟩) y368.length co37)) (v1 := (.slice (some ⟨go37, 0, none⟩) y368.length co37)) (ok := (fun k_ => some k_ ≠ (.slice Ao42 x5_1.length co42 : Value).ownBlock ∧ some k_ ≠ (u367003 : Value).ownBlock)) (by refine sqR ?_; first | exact HO_363003.out | exact Kd.zo HO_363003.out (fun _ hk => ⟨⟨hk.1.2, hk.1.1⟩, hk.2⟩)) hg (.inl rfl)); have n2_ := Aside0.mk (Kd.qY (v := (.slice (some ⟨go37, 0, none⟩) y368.length co37)) (v1 := (.slice (some ⟨go37, 0, none⟩) y368.length co37)) (ok := (fun k_ => some k_ ≠ (.slice Ao42 x5_1.length co42 : Value).ownBlock ∧ some k_ ≠ (u363003 : Value).ownBlock)) (by refine sqR ?_; first | exact HO_367003.out | exact Kd.zo HO_367003.out (fun _ hk => ⟨⟨hk.1.2, hk.1.1⟩, hk.2⟩)) hg (.inl rfl)); have n3_ := Aside0.mk (zX (g := gb353) (o := .cells #[.int .i64 a0_0, .int .i64 a0_1, .int .i64 a0_2, .slice A0_3 l0_3.length c0_3] 27 (0, 0)) (sqK BK353.out) hg (Kd.qH HO370.out BK353.out (by decide))); have n4_ := Aside0.mk (zX (g := gb354) (o := .cells #[.int .i64 0, .int .i64 0, .int .i64 0, .slice none 0 0] 27 (0, 0)) (sqK BK354.out) hg (Kd.qH HO370.out BK354.out (by decide))); have n5_ := Aside0.mk (zX (g := gb362) (o := .cells #[.int .i64 t356, .int .i64 t357, .int .i64 t358, u363003] 27 (0, 0)) (sqK BK362.out) hg (Kd.qH HO370.out BK362.out (by decide))); have n6_ := Aside0.mk (zX (g := gb366) (o := .cells #[.int .i64 a0_0, .int .i64 x367001_1, .int .i64 a0_2, u367003] 27 (0, 0)) (sqK BK366.out) hg (Kd.qH HO370.out BK366.out (by decide))); have n7_ := Aside0.mk (hp_); have n8_ := Aside0.mk ((by rw [hw]; exact zO (HB.out) GB37.out : Below w.heap.size w w46)); clear HO_5; clear HO_363003; clear HO_367003; clear BK353; clear BK354; clear BK362; clear BK366; clear HO370; clear HB; have HO_5 := n0_; have HO_363003 := n1_; have HO_367003 := n2_; have BK353 := n3_; have BK354 := n4_; have BK362 := n5_; have BK366 := n6_; have HO370 := n7_; have HB := n8_; clear n0_ n1_ n2_ n3_ n4_ n5_ n6_ n7_ n8_; clear hg hw hp_))
          go_loopg [9] k1 (fun kq v9 w' => ∃ (x8_2 : List Int) (x9_2 : Int), v9 = .int .i64 x9_2 ∧ Aside0 (zr.l1 kq x5_1 x7_1 x8_2 x9_2 a0_0 a0_1 a0_2 l0_3 t356 t357 t358 x363003_1 a0_0 x367001_1 a0_2 x367003_1 = some (r1, r2, r3, r4, r5)) ∧ Aside0 (kq ≤ k1) ∧ Aside0 (Kd.R (Kd.int .i64) 3 w' w.heap.size (fun k_ => some k_ ≠ ((.slice (some ⟨go37, 0, none⟩) y368.length co37) : Value).ownBlock ∧ some k_ ≠ (u363003 : Value).ownBlock ∧ some k_ ≠ (u367003 : Value).ownBlock) (.slice Ao42 x5_1.length co42) x5_1) ∧ Aside0 (Kd.R (Kd.int .i64) 3 w' w.heap.size (fun k_ => some k_ ≠ ((.slice Ao42 x5_1.length co42) : Value).ownBlock ∧ some k_ ≠ (u363003 : Value).ownBlock ∧ some k_ ≠ (u367003 : Value).ownBlock) (.slice (some ⟨go37, 0, none⟩) y368.length co37) x8_2) ∧ Aside0 (Kd.R (Kd.int .i64) 3 w' w.heap.size (fun k_ => some k_ ≠ ((.slice Ao42 x5_1.length co42) : Value).ownBlock ∧ some k_ ≠ ((.slice (some ⟨go37, 0, none⟩) y368.length co37) : Value).ownBlock ∧ some k_ ≠ (u367003 : Value).ownBlock) u363003 x363003_1) ∧ Aside0 (Kd.R (Kd.int .i64) 3 w' w.heap.size (fun k_ => some k_ ≠ ((.slice Ao42 x5_1.length co42) : Value).ownBlock ∧ some k_ ≠ ((.slice (some ⟨go37, 0, none⟩) y368.length co37) : Value).ownBlock ∧ some k_ ≠ (u363003 : Value).ownBlock) u367003 x367003_1) ∧ Aside0 (w'.heap[gb353]? = some (.cells #[.int .i64 a0_0, .int .i64 a0_1, .int .i64 a0_2, (.slice A0_3 l0_3.length c0_3)] 27 (0, 0))) ∧ Aside0 (w'.heap[gb354]? = some (.cells #[.int .i64 0, .int .i64 0, .int .i64 0, (.slice none 0 0)] 27 (0, 0))) ∧ Aside0 (w'.heap[gb362]? = some (.cells #[.int .i64 t356, .int .i64 t357, .int .i64 t358, u363003] 27 (0, 0))) ∧ Aside0 (w'.heap[gb366]? = some (.cells #[.int .i64 a0_0, .int .i64 x367001_1, .int .i64 a0_2, u367003] 27 (0, 0))) ∧ Aside0 (Below w.heap.size w w'))
          case atStart => exact ⟨(y371), (0), (sqD), H', ⟨Nat.le_refl _⟩, ⟨by refine sqR ?_; exact Kd.zo HO_5.out (fun _ hk => by first | exact ⟨hk.2, ⟨hk.1.1, hk.1.2⟩⟩ | (refine ⟨?_, ?_, ?_⟩ <;> intro e_ <;> simp only [e_, ne_eq, not_true_eq_false, and_false, false_and] at hk))⟩, ⟨sqR HO370.out⟩, ⟨by refine sqR ?_; exact Kd.zo HO_363003.out (fun _ hk => by first | exact ⟨hk.1.1, ⟨hk.2, hk.1.2⟩⟩ | (refine ⟨?_, ?_, ?_⟩ <;> intro e_ <;> simp only [e_, ne_eq, not_true_eq_false, and_false, false_and] at hk))⟩, ⟨by refine sqR ?_; exact Kd.zo HO_367003.out (fun _ hk => by first | exact ⟨hk.1.1, ⟨hk.2, hk.1.2⟩⟩ | (refine ⟨?_, ?_, ?_⟩ <;> intro e_ <;> simp only [e_, ne_eq, not_true_eq_false, and_false, false_and] at hk))⟩, ⟨sqK BK353.out⟩, ⟨sqK BK354.out⟩, ⟨sqK BK362.out⟩, ⟨sqK BK366.out⟩, ⟨sqB⟩⟩
          case round =>
           clear H'
           try clear c1
           try clear c2
           try clear p2
           try clear c3
           try clear p3
           try clear q3
           try clear hx3
           try clear hf3
           try clear c4
           try clear c6
           try clear p6
           try clear c8
           try clear c14
           try clear c15
           try clear c21
           try clear c22
           try clear c23
           try clear c25
           try clear c25b0
           try clear c27
           try clear c28
           try clear c29
           try clear c30
           try clear c32
           try clear c33
           try clear c33b0
           try clear c33b1
           try clear c34
           try clear c34b0
           try clear c34b1
           try clear c35
           try clear c35b0
           try clear c36
           try clear c36b0
           try clear c37
           try clear p37
           try clear q37
           try clear hx37
           try clear hf37
           try clear c38
           try clear c39
           try clear c40
           try clear hcz11_0
           try clear hcz11_1
           try clear hcz11_2
           try clear hcz11_3
           try clear hcz16_0
           try clear hcz16_1
           try clear hcz16_2
           try clear hcz16_3
           try clear hcz19_0
           try clear hcz19_1
           try clear hcz19_2
           try clear hcz19_3
           try clear hcz24_0
           try clear hcz24_1
           try clear hcz24_2
           try clear hcz24_3
           try clear hcz31_0
           try clear hcz31_1
           try clear hcz31_2
           try clear hcz31_3
           try clear hcz41_0
           try clear hcz41_1
           try clear hcz41_2
           try clear hcz41_3
           try clear hcz9_0
           try clear hcz9_1
           try clear hcz9_2
           try clear hcz9_3
           try clear hfz11_0
           try clear hfz11_1
           try clear hfz11_2
           try clear hfz11_3
           try clear hfz16_0
           try clear hfz16_1
           try clear hfz16_2
           try clear hfz16_3
           try clear hfz19_0
           try clear hfz19_1
           try clear hfz19_2
           try clear hfz19_3
           try clear hfz24_0
           try clear hfz24_1
           try clear hfz24_2
           try clear hfz24_3
           try clear hfz31_0
           try clear hfz31_1
           try clear hfz31_2
           try clear hfz31_3
           try clear hfz41_0
           try clear hfz41_1
           try clear hfz41_2
           try clear hfz41_3
           try clear hfz9_0
           try clear hfz9_1
           try clear hfz9_2
           try clear hfz9_3
           try clear hx37_0
           try clear p2
           try clear p37
           try clear q37
           obtain ⟨x8_2, x9_2, rfl, HA, HK2, HO_5, HO_8, HO_363003, HO_367003, BK353, BK354, BK362, BK366, HB⟩ := hrel
           have hl8_2 := (Kd.zu HO_8.out).1
           rw [hl8_2] at HO_8
           (try simp only [hl8_2])
           (try simp only [hl8_2] at BK353)
           (try simp only [hl8_2] at BK354)
           (try simp only [hl8_2] at BK362)
           (try simp only [hl8_2] at BK366)
           (try simp only [hl8_2] at HO_5)
           (try simp only [hl8_2] at HO_363003)
           (try simp only [hl8_2] at HO_367003)
           cases gk with
           | zero => exact absurd HA.out (by simp [zr.l1])
           | succ k2 =>
            have H := HA.out
            clear HA
            simp only [zr.l1] at H
            by_cases c47 : x9_2 < t357
            ·rw [if_pos c47] at H
             have c47b0 : decide (x9_2 < t357) = true := decide_eq_true c47
             clear c47
             by_cases c48 : 0 ≤ x9_2
             ·rw [if_pos c48] at H
              have c48b0 : decide (0 ≤ x9_2) = true := decide_eq_true c48
              clear c48
              by_cases c49 : x9_2 < (x5_1.length : Int)
              ·rw [if_pos c49] at H
               have c49b0 : decide (x9_2 < (x5_1.length : Int)) = true := decide_eq_true c49
               (try simp only [hl8_2] at c49b0)
               clear c49
               obtain ⟨ji50, hji50⟩ : ∃ j_ : Int, (wrap64 ((wrap64 (x9_2 * a0_2)) + x7_1)) = j_ := ⟨_, rfl⟩
               replace H : (if 0 ≤ (ji50) then (if (ji50) < (x363003_1.length : Int) then (if a0_0 = 0 then (none) else (if 0 ≤ (rd x5_1 x9_2) then (if (rd x5_1 x9_2) < (x8_2.length : Int) then (zr.l1 k2 x5_1 x7_1 (x8_2.set ((rd x5_1 x9_2) : Int).toNat (Int.tmod (wrap64 (a0_0 - (rd x363003_1 (ji50)))) a0_0)) (wrap64 (x9_2 + 1)) a0_0 a0_1 a0_2 l0_3 t356 t357 t358 x363003_1 a0_0 x367001_1 a0_2 x367003_1) else (none)) else (none))) else (none)) else (none)) = some (r1, r2, r3, r4, r5) := by first | (rw [hji50] at H; exact H) | (simp only [hji50] at H ⊢; exact H)
               have hji50w : (IntKind.i64.wrap ((wrap64 (x9_2 * a0_2)) + x7_1)) = ji50 := (zf _).trans hji50
               by_cases c51 : 0 ≤ (ji50)
               ·rw [if_pos c51] at H
                have c51b0 : decide (0 ≤ (ji50)) = true := decide_eq_true c51
                clear c51
                by_cases c52 : (ji50) < (x363003_1.length : Int)
                ·rw [if_pos c52] at H
                 have c52b0 : decide ((ji50) < (x363003_1.length : Int)) = true := decide_eq_true c52
                 (try simp only [hl8_2] at c52b0)
                 clear c52
                 by_cases c53 : a0_0 = 0
                 ·rw [if_pos c53] at H
                  exact absurd H (by simp)
                 ·rw [if_neg c53] at H
                  have c53b0 : (a0_0 == 0) = false := beq_eq_false_iff_ne.mpr c53
                  have c53b1 : (a0_0 != 0) = true := bne_iff_ne.mpr c53
                  by_cases c54 : 0 ≤ (rd x5_1 x9_2)
                  ·rw [if_pos c54] at H
                   have c54b0 : decide (0 ≤ (rd x5_1 x9_2)) = true := decide_eq_true c54
                   clear c54
                   by_cases c55 : (rd x5_1 x9_2) < (x8_2.length : Int)
                   ·rw [if_pos c55] at H
                    have c55b0 : decide ((rd x5_1 x9_2) < (x8_2.length : Int)) = true := decide_eq_true c55
                    (try simp only [hl8_2] at c55b0)
                    clear c55
                    obtain ⟨y374, hy374⟩ : ∃ y_ : List Int, y_ = (x8_2.set ((rd x5_1 x9_2) : Int).toNat (Int.tmod (wrap64 (a0_0 - (rd x363003_1 (ji50)))) a0_0)) := ⟨_, rfl⟩
                    replace H : (zr.l1 k2 x5_1 x7_1 y374 (wrap64 (x9_2 + 1)) a0_0 a0_1 a0_2 l0_3 t356 t357 t358 x363003_1 a0_0 x367001_1 a0_2 x367003_1) = some (r1, r2, r3, r4, r5) := by first | (rw [hy374]; with_reducible exact H) | (have H2_ := (Option.bind_some _ _).symm.trans H; rw [hy374]; with_reducible exact H2_) | (have H2_ := (Option.bind_some _ _).symm.trans H; with_reducible exact H2_) | with_reducible exact H | (rw [hy374]; exact H) | exact H
                    have Ny374 := Aside0.mk hy374
                    clear hy374
                    have H' := Aside0.mk H
                    clear H
                    have hnb57 := NB362_353.out
                    have hnc57 := NB353_362.out
                    have hnb58 := NB362_354.out
                    have hnc58 := NB354_362.out
                    have hnb59 := NB362_366.out
                    have hnc59 := NB366_362.out
                    have hcz60_0 : wr.cell? ⟨gb362, 0, none⟩ = some (.int .i64 t356) := (zb BK362.out 0).trans rfl
                    have hcz60_1 : wr.cell? ⟨gb362, 1, none⟩ = some (.int .i64 t357) := (zb BK362.out 1).trans rfl
                    have hcz60_2 : wr.cell? ⟨gb362, 2, none⟩ = some (.int .i64 t358) := (zb BK362.out 2).trans rfl
                    have hcz60_3 : wr.cell? ⟨gb362, 3, none⟩ = some (u363003) := (zb BK362.out 3).trans rfl
                    have hfz60_0 := za BK362.out 0; have hfz60_1 := za BK362.out 1; have hfz60_2 := za BK362.out 2; have hfz60_3 := za BK362.out 3
                    try go_wp2
                    have n0_ := Aside0.mk (Kd.qM HO_5.out)
                    have n1_ := Aside0.mk (Kd.qM HO_8.out)
                    have n2_ := Aside0.mk (Kd.qM HO_363003.out)
                    have n3_ := Aside0.mk (Kd.qM HO_367003.out)
                    have n4_ := Aside0.mk (qd BK353.out)
                    have n5_ := Aside0.mk (qd BK354.out)
                    have n6_ := Aside0.mk (qd BK362.out)
                    have n7_ := Aside0.mk (qd BK366.out)
                    have n8_ := Aside0.mk (zT HB.out)
                    clear HO_5 HO_8 HO_363003 HO_367003 BK353 BK354 BK362 BK366 HB; have HO_5 := n0_; have HO_8 := n1_; have HO_363003 := n2_; have HO_367003 := n3_; have BK353 := n4_; have BK354 := n5_; have BK362 := n6_; have BK366 := n7_; have HB := n8_; clear n0_ n1_ n2_ n3_ n4_ n5_ n6_ n7_ n8_
                    have p372 : 0 ≤ (x9_2 : Int) := of_decide_eq_true sqA
                    have q372 : x9_2 < (x5_1.length : Int) := of_decide_eq_true sqA
                    obtain ⟨ad372, e372, hx372_0⟩ := Kd.qh (Kd.zu HO_5.out).2.2 x9_2 p372 q372
                    cases e372
                    replace p372 := eq_true p372
                    replace q372 := eq_true q372
                    obtain ⟨Ao62, co62, eo62⟩ := Kd.zU HO_363003.out
                    (first | subst eo62 | (injection eo62 with f1_ f2_ f3_; have f4_ := f1_.symm; have f5_ := f3_.symm; clear f1_ f2_ f3_; subst f4_; subst f5_))
                    have p373 : 0 ≤ ((ji50) : Int) := of_decide_eq_true sqA
                    have q373 : (ji50) < (x363003_1.length : Int) := of_decide_eq_true sqA
                    obtain ⟨ad373, e373, hx373_0⟩ := Kd.qh (Kd.zu HO_363003.out).2.2 (ji50) p373 q373
                    cases e373
                    replace p373 := eq_true p373
                    replace q373 := eq_true q373
                    have p56 : 0 ≤ ((rd x5_1 x9_2) : Int) := of_decide_eq_true sqA
                    have q56 : ((rd x5_1 x9_2) : Int) < ((x8_2.length : Int) : Int) := of_decide_eq_true sqA
                    obtain ⟨hx56_0, hf56_0⟩ := Kd.qX 0 HO_8.out ((rd x5_1 x9_2) : Int) p56 q56
                    replace p56 := eq_true p56
                    replace q56 := eq_true q56
                    have HP63 := Kd.Zr HO_8.out ((rd x5_1 x9_2) : Int) (Int.tmod (wrap64 (a0_0 - (rd x363003_1 (ji50)))) a0_0)
                    rw [← Ny374.out] at HP63
                    have HQ63 := Aside0.mk HP63
                    clear HP63
                    refine jU (n := 23) (S := fun w' => w'.cell? ⟨gb353, 0, none⟩ = some (.int .i64 a0_0) ∧ w'.cell? ⟨gb353, 1, none⟩ = some (.int .i64 a0_1) ∧ w'.cell? ⟨gb353, 2, none⟩ = some (.int .i64 a0_2) ∧ w'.cell? ⟨gb353, 3, none⟩ = some (.slice A0_3 l0_3.length c0_3) ∧ w'.cell? ⟨gb362, 0, none⟩ = some (.int .i64 t356) ∧ w'.cell? ⟨gb362, 1, none⟩ = some (.int .i64 t357) ∧ w'.cell? ⟨gb362, 2, none⟩ = some (.int .i64 t358) ∧ w'.cell? ⟨gb362, 3, none⟩ = some (.slice (some ad373) x363003_1.length co62) ∧ w'.cell? (ad372.add (x9_2).toNat) = some (.int .i64 (rd x5_1 x9_2)) ∧ w'.cell? (ad373.add ((ji50)).toNat) = some (.int .i64 (rd x363003_1 (ji50)))) (ds := [22]) #[false, false, false, false, false, false, false, false, false, false, false, false, false, false, false, false, false, false, false, false, false, false, false] (by kernel_rfl) rfl rfl ⟨(zb BK353.out 0).trans rfl, (zb BK353.out 1).trans rfl, (zb BK353.out 2).trans rfl, (zb BK353.out 3).trans rfl, (zb BK362.out 0).trans rfl, (zb BK362.out 1).trans rfl, (zb BK362.out 2).trans rfl, (zb BK362.out 3).trans rfl, hx372_0, hx373_0⟩ (fun hHeld => ?_); refine qZ zr.Vo zr.Jl (fun HT_ HW_ => ?_)
                    generalize wr.drew = w61 at HO_5 HO_8 HO_363003 HO_367003 BK353 BK354 BK362 BK366 HB HQ63 hf56_0 hx372_0 hx373_0 hx56_0 hHeld ⊢
                    refine zx (i := 0) (N := some 44) (v := ?_) (a' := ?_) #[true, false, false, false, false, false, false, false, false, false, false, false, false, false, false, false, false, false, false, false, false, false, false] rfl rfl (zn HT_.out (by kernel_rfl)) (fun _ _ _ h => h) (Or.inl ⟨by rfl, ?_⟩) ?_ ?_
                    rotate_left
                    ·intro w'; go_simp; with_reducible rfl
                    rotate_left
                    ·simp only [Act.put, List.setIfInBounds_toArray, List.set_cons_zero, List.set_cons_succ, zf, zh]; rfl
                    refine zx (i := 1) (N := some 45) (v := ?_) (a' := ?_) #[true, true, false, false, false, false, false, false, false, false, false, false, false, false, false, false, false, false, false, false, false, false, false] rfl rfl (zn HT_.out (by kernel_rfl)) (fun _ _ _ h => h) (Or.inl ⟨by rfl, ?_⟩) ?_ ?_
                    rotate_left
                    ·intro w'; go_simp; with_reducible rfl
                    rotate_left
                    ·simp only [Act.put, List.setIfInBounds_toArray, List.set_cons_zero, List.set_cons_succ, zf, zh]; rfl
                    refine zx (i := 2) (N := some 46) (v := ?_) (a' := ?_) #[true, true, true, false, false, false, false, false, false, false, false, false, false, false, false, false, false, false, false, false, false, false, false] rfl rfl (zn HT_.out (by kernel_rfl)) (fun _ _ _ h => h) (Or.inl ⟨by rfl, ?_⟩) ?_ ?_
                    rotate_left
                    ·intro w'; go_simp; with_reducible rfl
                    rotate_left
                    ·simp only [Act.put, List.setIfInBounds_toArray, List.set_cons_zero, List.set_cons_succ, zf, zh]; rfl
                    refine zx (i := 3) (N := some 47) (v := ?_) (a' := ?_) #[true, true, true, true, false, false, false, false, false, false, false, false, false, false, false, false, false, false, false, false, false, false, false] rfl rfl (zn HT_.out (by kernel_rfl)) (fun _ _ _ h => h) (Or.inl ⟨by rfl, ?_⟩) ?_ ?_
                    rotate_left
                    ·intro w'; go_simp; with_reducible rfl
                    rotate_left
                    ·simp only [Act.put, List.setIfInBounds_toArray, List.set_cons_zero, List.set_cons_succ, zf, zh]; rfl
                    refine zx (i := 5) (N := some 49) (v := ?_) (a' := ?_) #[true, true, true, true, false, true, false, false, false, false, false, false, false, false, false, false, false, false, false, false, false, false, false] rfl rfl (zn HT_.out (by kernel_rfl)) (fun _ _ _ h => h) (Or.inl ⟨by rfl, ?_⟩) ?_ ?_
                    rotate_left
                    ·intro w'; go_simp; with_reducible rfl
                    rotate_left
                    ·simp only [Act.put, List.setIfInBounds_toArray, List.set_cons_zero, List.set_cons_succ, zf, zh]; rfl
                    refine zx (i := 7) (N := some 51) (v := ?_) (a' := ?_) #[true, true, true, true, false, true, false, true, false, false, false, false, false, false, false, false, false, false, false, false, false, false, false] rfl rfl (zn HT_.out (by kernel_rfl)) (fun _ _ _ h => h) (Or.inl ⟨by rfl, ?_⟩) ?_ ?_
                    rotate_left
                    ·intro w'; go_simp; with_reducible rfl
                    rotate_left
                    ·simp only [Act.put, List.setIfInBounds_toArray, List.set_cons_zero, List.set_cons_succ, zf, zh]; rfl
                    refine zx (i := 9) (N := some 53) (v := ?_) (a' := ?_) #[true, true, true, true, false, true, false, true, false, true, false, false, false, false, false, false, false, false, false, false, false, false, false] rfl rfl (zn HT_.out (by kernel_rfl)) (fun _ _ _ h => h) (Or.inl ⟨by rfl, ?_⟩) ?_ ?_
                    rotate_left
                    ·intro w'; go_simp; with_reducible rfl
                    rotate_left
                    ·simp only [Act.put, List.setIfInBounds_toArray, List.set_cons_zero, List.set_cons_succ, zf, zh]; rfl
                    refine zx (i := 10) (N := some 54) (v := ?_) (a' := ?_) #[true, true, true, true, false, true, false, true, false, true, true, false, false, false, false, false, false, false, false, false, false, false, false] rfl rfl (zn HT_.out (by kernel_rfl)) (fun _ _ _ h => h) (Or.inl ⟨by rfl, ?_⟩) ?_ ?_
                    rotate_left
                    ·intro w'; go_simp; with_reducible rfl
                    rotate_left
                    ·simp only [Act.put, List.setIfInBounds_toArray, List.set_cons_zero, List.set_cons_succ, zf, zh]; rfl
                    refine zx (i := 13) (N := some 57) (v := ?_) (a' := ?_) #[true, true, true, true, false, true, false, true, false, true, true, false, false, true, false, false, false, false, false, false, false, false, false] rfl rfl (zn HT_.out (by kernel_rfl)) (fun _ _ _ h => h) (Or.inl ⟨by rfl, ?_⟩) ?_ ?_
                    rotate_left
                    ·intro w'; go_simp; with_reducible rfl
                    rotate_left
                    ·simp only [Act.put, List.setIfInBounds_toArray, List.set_cons_zero, List.set_cons_succ, zf, zh]; rfl
                    refine zx (i := 18) (N := some 62) (v := ?_) (a' := ?_) #[true, true, true, true, false, true, false, true, false, true, true, false, false, true, false, false, false, false, true, false, false, false, false] rfl rfl (zn HT_.out (by kernel_rfl)) (fun _ _ _ h => h) (Or.inl ⟨by rfl, ?_⟩) ?_ ?_
                    rotate_left
                    ·intro w'; go_simp; with_reducible rfl
                    rotate_left
                    ·simp only [Act.put, List.setIfInBounds_toArray, List.set_cons_zero, List.set_cons_succ, zf, zh]; rfl
                    refine qe (i := 4) (N := some 48) (v := ?_) (a' := ?_) #[true, true, true, true, true, true, false, true, false, true, true, false, false, true, false, false, false, false, true, false, false, false, false] rfl rfl (zM HT_.out HW_.out (by kernel_rfl)) (fun _ _ _ h => h) (Or.inl ⟨by rfl, ?_⟩) hHeld ?_ ?_
                    rotate_left
                    ·rintro w' ⟨s0, s1, s2, s3, s4, s5, s6, s7, s8, s9⟩; go_simp; with_reducible rfl
                    rotate_left
                    ·simp only [Act.put, List.setIfInBounds_toArray, List.set_cons_zero, List.set_cons_succ, zf, zh]; rfl
                    refine qe (i := 6) (N := some 50) (v := ?_) (a' := ?_) #[true, true, true, true, true, true, true, true, false, true, true, false, false, true, false, false, false, false, true, false, false, false, false] rfl rfl (zM HT_.out HW_.out (by kernel_rfl)) (fun _ _ _ h => h) (Or.inl ⟨by rfl, ?_⟩) hHeld ?_ ?_
                    rotate_left
                    ·rintro w' ⟨s0, s1, s2, s3, s4, s5, s6, s7, s8, s9⟩; go_simp; with_reducible rfl
                    rotate_left
                    ·simp only [Act.put, List.setIfInBounds_toArray, List.set_cons_zero, List.set_cons_succ, zf, zh]; rfl
                    refine qe (i := 8) (N := some 52) (v := ?_) (a' := ?_) #[true, true, true, true, true, true, true, true, true, true, true, false, false, true, false, false, false, false, true, false, false, false, false] rfl rfl (zM HT_.out HW_.out (by kernel_rfl)) (fun _ _ _ h => h) (Or.inl ⟨by rfl, ?_⟩) hHeld ?_ ?_
                    rotate_left
                    ·rintro w' ⟨s0, s1, s2, s3, s4, s5, s6, s7, s8, s9⟩; go_simp; with_reducible rfl
                    rotate_left
                    ·simp only [Act.put, List.setIfInBounds_toArray, List.set_cons_zero, List.set_cons_succ, zf, zh]; rfl
                    refine qe (i := 11) (N := some 55) (v := ?_) (a' := ?_) #[true, true, true, true, true, true, true, true, true, true, true, true, false, true, false, false, false, false, true, false, false, false, false] rfl rfl (zM HT_.out HW_.out (by kernel_rfl)) (fun _ _ _ h => h) (Or.inl ⟨by rfl, ?_⟩) hHeld ?_ ?_
                    rotate_left
                    ·rintro w' ⟨s0, s1, s2, s3, s4, s5, s6, s7, s8, s9⟩; go_simp; with_reducible rfl
                    rotate_left
                    ·simp only [Act.put, List.setIfInBounds_toArray, List.set_cons_zero, List.set_cons_succ, zf, zh]; rfl
                    refine zx (i := 12) (N := some 56) (v := ?_) (a' := ?_) #[true, true, true, true, true, true, true, true, true, true, true, true, true, true, false, false, false, false, true, false, false, false, false] rfl rfl (zn HT_.out (by kernel_rfl)) (fun _ _ _ h => h) (Or.inl ⟨by rfl, ?_⟩) ?_ ?_
                    rotate_left
                    ·intro w'; go_simp; with_reducible rfl
                    rotate_left
                    ·simp only [Act.put, List.setIfInBounds_toArray, List.set_cons_zero, List.set_cons_succ, zf, zh]; rfl
                    refine zx (i := 14) (N := some 58) (v := ?_) (a' := ?_) #[true, true, true, true, true, true, true, true, true, true, true, true, true, true, true, false, false, false, true, false, false, false, false] rfl rfl (zn HT_.out (by kernel_rfl)) (fun _ _ _ h => h) (Or.inl ⟨by rfl, ?_⟩) ?_ ?_
                    rotate_left
                    ·intro w'; go_simp; with_reducible rfl
                    rotate_left
                    ·simp only [Act.put, List.setIfInBounds_toArray, List.set_cons_zero, List.set_cons_succ, zf, zh]; rfl
                    refine zx (i := 15) (N := some 59) (v := ?_) (a' := ?_) #[true, true, true, true, true, true, true, true, true, true, true, true, true, true, true, true, false, false, true, false, false, false, false] rfl rfl (zn HT_.out (by kernel_rfl)) (fun _ _ _ h => h) (Or.inl ⟨by rfl, ?_⟩) ?_ ?_
                    rotate_left
                    ·intro w'; go_simp; with_reducible rfl
                    rotate_left
                    ·simp only [Act.put, List.setIfInBounds_toArray, List.set_cons_zero, List.set_cons_succ, zf, zh]; rfl
                    refine qe (i := 16) (N := some 60) (v := ?_) (a' := ?_) #[true, true, true, true, true, true, true, true, true, true, true, true, true, true, true, true, true, false, true, false, false, false, false] rfl rfl (zM HT_.out HW_.out (by kernel_rfl)) (fun _ _ _ h => h) (Or.inl ⟨by rfl, ?_⟩) hHeld ?_ ?_
                    rotate_left
                    ·rintro w' ⟨s0, s1, s2, s3, s4, s5, s6, s7, s8, s9⟩; go_simp; with_reducible rfl
                    rotate_left
                    ·simp only [Act.put, List.setIfInBounds_toArray, List.set_cons_zero, List.set_cons_succ, zf, zh]; rfl
                    refine zx (i := 17) (N := some 61) (v := ?_) (a' := ?_) #[true, true, true, true, true, true, true, true, true, true, true, true, true, true, true, true, true, true, true, false, false, false, false] rfl rfl (zn HT_.out (by kernel_rfl)) (fun _ _ _ h => h) (Or.inl ⟨by rfl, ?_⟩) ?_ ?_
                    rotate_left
                    ·intro w'; go_simp; with_reducible rfl
                    rotate_left
                    ·simp only [Act.put, List.setIfInBounds_toArray, List.set_cons_zero, List.set_cons_succ, zf, zh]; rfl
                    refine qe (i := 19) (N := some 63) (v := ?_) (a' := ?_) #[true, true, true, true, true, true, true, true, true, true, true, true, true, true, true, true, true, true, true, true, false, false, false] rfl rfl (zM HT_.out HW_.out (by kernel_rfl)) (fun _ _ _ h => h) (Or.inl ⟨by rfl, ?_⟩) hHeld ?_ ?_
                    rotate_left
                    ·rintro w' ⟨s0, s1, s2, s3, s4, s5, s6, s7, s8, s9⟩; go_simp; with_reducible rfl
                    rotate_left
                    ·simp only [Act.put, List.setIfInBounds_toArray, List.set_cons_zero, List.set_cons_succ, zf, zh]; rfl
                    refine zx (i := 20) (N := some 64) (v := ?_) (a' := ?_) #[true, true, true, true, true, true, true, true, true, true, true, true, true, true, true, true, true, true, true, true, true, false, false] rfl rfl (zn HT_.out (by kernel_rfl)) (fun _ _ _ h => h) (Or.inl ⟨by rfl, ?_⟩) ?_ ?_
                    rotate_left
                    ·intro w'; go_simp; with_reducible rfl
                    rotate_left
                    ·simp only [Act.put, List.setIfInBounds_toArray, List.set_cons_zero, List.set_cons_succ, zf, zh]; rfl
                    refine zx (i := 21) (N := some 65) (v := ?_) (a' := ?_) #[true, true, true, true, true, true, true, true, true, true, true, true, true, true, true, true, true, true, true, true, true, true, false] rfl rfl (zn HT_.out (by kernel_rfl)) (fun _ _ _ h => h) (Or.inl ⟨by rfl, ?_⟩) ?_ ?_
                    rotate_left
                    ·intro w'; go_simp; with_reducible rfl
                    rotate_left
                    ·simp only [Act.put, List.setIfInBounds_toArray, List.set_cons_zero, List.set_cons_succ, zf, zh]; rfl
                    refine ym (i := 22) (N := none) #[true, true, true, true, true, true, true, true, true, true, true, true, true, true, true, true, true, true, true, true, true, true, true] rfl rfl (jr HT_.out (by kernel_rfl)) (by decide) (fun K hK => ?_)
                    refine yj (w1 := ?_) (by rfl) rfl ?_ ?_
                    rotate_left
                    ·go_simp
                     rfl
                    refine hK.out _ _ ?_
                    clear hK K
                    refine vI (jO HT_.out (by kernel_rfl)) ?_
                    try go_wp2
                    (try simp only [← hl8_2])
                    go_roundg k2
                    case measure => have := HK1.out; have := HK2.out; omega
                    case rel => exact ⟨(y374), (wrap64 (x9_2 + 1)), (sqD), H', ⟨by have := HK1.out; have := HK2.out; omega⟩, ⟨by (try simp only [hl8_2]); refine sqR ?_; exact Kd.zo (Kd.zj (p := ⟨go37, ((rd x5_1 x9_2) : Int).toNat, none⟩) (Kd.zo HO_5.out (fun k_ hk => (⟨hk, fun e_ => hk.1 (by rw [e_]; rfl)⟩ : _ ∧ k_ ≠ go37))) (fun _ hk => hk.2) (.int .i64 (Int.tmod (wrap64 (a0_0 - (rd x363003_1 (ji50)))) a0_0))) (fun _ hk => by first | exact ⟨hk.1.1, ⟨hk.1.2.1, hk.1.2.2⟩⟩ | (refine ⟨?_, ?_, ?_⟩ <;> intro e_ <;> simp only [e_, ne_eq, not_true_eq_false, and_false, false_and] at hk))⟩, ⟨by (try simp only [hl8_2]); refine sqR ?_; exact HQ63.out⟩, ⟨by (try simp only [hl8_2]); refine sqR ?_; exact Kd.zo (Kd.zj (p := ⟨go37, ((rd x5_1 x9_2) : Int).toNat, none⟩) (Kd.zo HO_363003.out (fun k_ hk => (⟨hk, fun e_ => hk.2.1 (by rw [e_]; rfl)⟩ : _ ∧ k_ ≠ go37))) (fun _ hk => hk.2) (.int .i64 (Int.tmod (wrap64 (a0_0 - (rd x363003_1 (ji50)))) a0_0))) (fun _ hk => by first | exact ⟨hk.1.1, ⟨hk.1.2.1, hk.1.2.2⟩⟩ | (refine ⟨?_, ?_, ?_⟩ <;> intro e_ <;> simp only [e_, ne_eq, not_true_eq_false, and_false, false_and] at hk))⟩, ⟨by (try simp only [hl8_2]); refine sqR ?_; exact Kd.zo (Kd.zj (p := ⟨go37, ((rd x5_1 x9_2) : Int).toNat, none⟩) (Kd.zo HO_367003.out (fun k_ hk => (⟨hk, fun e_ => hk.2.1 (by rw [e_]; rfl)⟩ : _ ∧ k_ ≠ go37))) (fun _ hk => hk.2) (.int .i64 (Int.tmod (wrap64 (a0_0 - (rd x363003_1 (ji50)))) a0_0))) (fun _ hk => by first | exact ⟨hk.1.1, ⟨hk.1.2.1, hk.1.2.2⟩⟩ | (refine ⟨?_, ?_, ?_⟩ <;> intro e_ <;> simp only [e_, ne_eq, not_true_eq_false, and_false, false_and] at hk))⟩, ⟨by (try simp only [hl8_2]); refine sqK ?_; refine zi ?_ (by have h_ := Kd.qH HO_8.out BK353.out (by decide); intro e_; exact h_ (by rw [e_]; rfl)) _; refine sqK ?_; exact BK353.out⟩, ⟨by (try simp only [hl8_2]); refine sqK ?_; refine zi ?_ (by have h_ := Kd.qH HO_8.out BK354.out (by decide); intro e_; exact h_ (by rw [e_]; rfl)) _; refine sqK ?_; exact BK354.out⟩, ⟨by (try simp only [hl8_2]); refine sqK ?_; refine zi ?_ (by have h_ := Kd.qH HO_8.out BK362.out (by decide); intro e_; exact h_ (by rw [e_]; rfl)) _; refine sqK ?_; exact BK362.out⟩, ⟨by (try simp only [hl8_2]); refine sqK ?_; refine zi ?_ (by have h_ := Kd.qH HO_8.out BK366.out (by decide); intro e_; exact h_ (by rw [e_]; rfl)) _; refine sqK ?_; exact BK366.out⟩, ⟨by repeat (first | (with_reducible first | exact HB.out | apply qc | apply z6 | apply zT | refine zO ?_ GB37.out | refine zO ?_ GE353.out | refine zO ?_ GE354.out | refine zO ?_ GE362.out | refine zO ?_ GE366.out) | exact HB.out)⟩⟩
                   ·rw [if_neg c55] at H
                    exact absurd H (by simp)
                  ·rw [if_neg c54] at H
                   exact absurd H (by simp)
                ·rw [if_neg c52] at H
                 exact absurd H (by simp)
               ·rw [if_neg c51] at H
                exact absurd H (by simp)
              ·rw [if_neg c49] at H
               exact absurd H (by simp)
             ·rw [if_neg c48] at H
              exact absurd H (by simp)
            ·rw [if_neg c47] at H
             have c47b0 : decide (x9_2 < t357) = false := decide_eq_false c47
             clear c47
             by_cases c64 : x367003_1.length + x8_2.length < 17592186044416
             ·rw [if_pos c64] at H
              have LMc64 := Aside0.mk c64
              clear c64
              obtain ⟨y375, hy375⟩ : ∃ y_ : List Int, y_ = (x367003_1 ++ x8_2) := ⟨_, rfl⟩
              replace H : (zr.l0 k2 x5_1 (wrap64 (x7_1 + 1)) a0_0 a0_1 a0_2 l0_3 t356 t357 t358 x363003_1 a0_0 (wrap64 (x367001_1 + 1)) a0_2 y375) = some (r1, r2, r3, r4, r5) := by first | (rw [hy375]; with_reducible exact H) | (have H2_ := (Option.bind_some _ _).symm.trans H; rw [hy375]; with_reducible exact H2_) | (have H2_ := (Option.bind_some _ _).symm.trans H; with_reducible exact H2_) | with_reducible exact H | (rw [hy375]; exact H) | exact H
              have Ny375 := Aside0.mk hy375
              clear hy375
              have H' := Aside0.mk H
              clear H
              have hnb65 := NB362_353.out
              have hnc65 := NB353_362.out
              have hnb66 := NB362_354.out
              have hnc66 := NB354_362.out
              have hnb67 := NB362_366.out
              have hnc67 := NB366_362.out
              have hcz68_0 : wr.cell? ⟨gb362, 0, none⟩ = some (.int .i64 t356) := (zb BK362.out 0).trans rfl
              have hcz68_1 : wr.cell? ⟨gb362, 1, none⟩ = some (.int .i64 t357) := (zb BK362.out 1).trans rfl
              have hcz68_2 : wr.cell? ⟨gb362, 2, none⟩ = some (.int .i64 t358) := (zb BK362.out 2).trans rfl
              have hcz68_3 : wr.cell? ⟨gb362, 3, none⟩ = some (u363003) := (zb BK362.out 3).trans rfl
              have hfz68_0 := za BK362.out 0; have hfz68_1 := za BK362.out 1; have hfz68_2 := za BK362.out 2; have hfz68_3 := za BK362.out 3
              have hnb69 := NB366_353.out
              have hnc69 := NB353_366.out
              have hnb70 := NB366_354.out
              have hnc70 := NB354_366.out
              have hcz71_0 : wr.cell? ⟨gb366, 0, none⟩ = some (.int .i64 a0_0) := (zb BK366.out 0).trans rfl
              have hcz71_1 : wr.cell? ⟨gb366, 1, none⟩ = some (.int .i64 x367001_1) := (zb BK366.out 1).trans rfl
              have hcz71_2 : wr.cell? ⟨gb366, 2, none⟩ = some (.int .i64 a0_2) := (zb BK366.out 2).trans rfl
              have hcz71_3 : wr.cell? ⟨gb366, 3, none⟩ = some (u367003) := (zb BK366.out 3).trans rfl
              have hfz71_0 := za BK366.out 0; have hfz71_1 := za BK366.out 1; have hfz71_2 := za BK366.out 2; have hfz71_3 := za BK366.out 3
              go_wp2_with (first | ((with_reducible refine qP (b := .append) (xs := #[.tmp 71, .tmp 72]) rfl ?_); at_builtin; refine Kd.jB (Kd.int .i64) (w0 := w) w.heap.size rfl (.tmp 71) (.tmp 72) 22 3 (.int .i64 0) 8 rfl Try.underlying22 vt rfl (by decide) (by omega) u367003 x367003_1 x8_2 _ _ _ (fun k_ => some k_ ≠ (.slice Ao42 x5_1.length co42 : Value).ownBlock ∧ some k_ ≠ (.slice (some ⟨go37, 0, none⟩) x8_2.length co37 : Value).ownBlock ∧ some k_ ≠ (u363003 : Value).ownBlock) (fun _ => False) rfl rfl ?aO ?aR (fun _ _ h => h) (fun _ h => h.elim) ?aF ?aB ?aS ?aL ?_; (case aR => refine (Kd.zu (e := 3) (base := w.heap.size) (ok := fun k_ => (some k_ ≠ (.slice Ao42 x5_1.length co42 : Value).ownBlock ∧ (some k_ ≠ (u363003 : Value).ownBlock ∧ some k_ ≠ (u367003 : Value).ownBlock))) (n := x8_2.length) (c := co37) ?_).2.2; exact (by refine sqR ?_; exact (Kd.zo (Kd.zj (p := ⟨gb366, 1, none⟩) (Kd.zF HO_8.out BK366.out (by decide)) (fun _ hk => hk.2) (.int .i64 (wrap64 (x367001_1 + 1)))) (fun _ h_ => h_.1)))); (case aB => exact sqB); (case aF => exact (fun k_ hk => ⟨Kd.vE (Kd.jg (by refine sqR ?_; exact (Kd.zo (Kd.zj (p := ⟨gb366, 1, none⟩) (Kd.zF HO_5.out BK366.out (by decide)) (fun _ hk => hk.2) (.int .i64 (wrap64 (x367001_1 + 1)))) (fun _ h_ => h_.1)))) k_ hk, Kd.vE (Kd.jg (by refine sqR ?_; exact (Kd.zo (Kd.zj (p := ⟨gb366, 1, none⟩) (Kd.zF HO_8.out BK366.out (by decide)) (fun _ hk => hk.2) (.int .i64 (wrap64 (x367001_1 + 1)))) (fun _ h_ => h_.1)))) k_ hk, Kd.vE (Kd.jg (by refine sqR ?_; exact (Kd.zo (Kd.zj (p := ⟨gb366, 1, none⟩) (Kd.zF HO_363003.out BK366.out (by decide)) (fun _ hk => hk.2) (.int .i64 (wrap64 (x367001_1 + 1)))) (fun _ h_ => h_.1)))) k_ hk⟩)); (case aO => exact (by refine sqR ?_; exact Kd.zo (Kd.zj (p := ⟨gb366, 1, none⟩) (Kd.zF HO_367003.out BK366.out (by decide)) (fun _ hk => hk.2) (.int .i64 (wrap64 (x367001_1 + 1)))) (fun _ hk => by first | exact ⟨hk.1.1, ⟨hk.1.2.1, hk.1.2.2⟩⟩ | (refine ⟨?_, ?_, ?_⟩ <;> intro e_ <;> simp only [e_, ne_eq, not_true_eq_false, and_false, false_and] at hk)))); (case aS => exact (zJ sqB)); (case aL => have := LMc64.out; omega); intro v376 w72 ho hb hg hat; rw [← Ny375.out] at ho; have n0_ := Aside0.mk (Kd.qY (ok := (fun k_ => some k_ ≠ (.slice (some ⟨go37, 0, none⟩) x8_2.length co37 : Value).ownBlock ∧ some k_ ≠ (u363003 : Value).ownBlock)) (by refine sqR ?_; exact Kd.zo (Kd.zj (p := ⟨gb366, 1, none⟩) (Kd.zF HO_5.out BK366.out (by decide)) (fun _ hk => hk.2) (.int .i64 (wrap64 (x367001_1 + 1)))) (fun _ hk => ⟨⟨hk.1.1, hk.1.2.1⟩, hk.1.2.2⟩)) hg hat); have n1_ := Aside0.mk (Kd.qY (ok := (fun k_ => some k_ ≠ (.slice Ao42 x5_1.length co42 : Value).ownBlock ∧ some k_ ≠ (u363003 : Value).ownBlock)) (by refine sqR ?_; exact Kd.zo (Kd.zj (p := ⟨gb366, 1, none⟩) (Kd.zF HO_8.out BK366.out (by decide)) (fun _ hk => hk.2) (.int .i64 (wrap64 (x367001_1 + 1)))) (fun _ hk => ⟨⟨hk.1.1, hk.1.2.1⟩, hk.1.2.2⟩)) hg hat); have n2_ := Aside0.mk (Kd.qY (ok := (fun k_ => some k_ ≠ (.slice Ao42 x5_1.length co42 : Value).ownBlock ∧ some k_ ≠ (.slice (some ⟨go37, 0, none⟩) x8_2.length co37 : Value).ownBlock)) (by refine sqR ?_; exact Kd.zo (Kd.zj (p := ⟨gb366, 1, none⟩) (Kd.zF HO_363003.out BK366.out (by decide)) (fun _ hk => hk.2) (.int .i64 (wrap64 (x367001_1 + 1)))) (fun _ hk => ⟨⟨hk.1.1, hk.1.2.1⟩, hk.1.2.2⟩)) hg hat); have n3_ := Aside0.mk (zX (g := gb353) (o := .cells #[.int .i64 a0_0, .int .i64 a0_1, .int .i64 a0_2, .slice A0_3 l0_3.length c0_3] 27 (0, 0)) (by refine sqK ?_; refine zi ?_ NB353_366.out _; refine sqK ?_; exact BK353.out) hg (Kd.qH HO_367003.out BK353.out (by decide))); have n4_ := Aside0.mk (zX (g := gb354) (o := .cells #[.int .i64 0, .int .i64 0, .int .i64 0, .slice none 0 0] 27 (0, 0)) (by refine sqK ?_; refine zi ?_ NB354_366.out _; refine sqK ?_; exact BK354.out) hg (Kd.qH HO_367003.out BK354.out (by decide))); have n5_ := Aside0.mk (zX (g := gb362) (o := .cells #[.int .i64 t356, .int .i64 t357, .int .i64 t358, u363003] 27 (0, 0)) (by refine sqK ?_; refine zi ?_ NB362_366.out _; refine sqK ?_; exact BK362.out) hg (Kd.qH HO_367003.out BK362.out (by decide))); have n6_ := Aside0.mk (zX (g := gb366) (o := .cells #[.int .i64 a0_0, .int .i64 (wrap64 (x367001_1 + 1)), .int .i64 a0_2, u367003] 27 (0, 0)) (by refine sqK ?_; refine zy (cs := #[.int .i64 a0_0, .int .i64 x367001_1, .int .i64 a0_2, u367003]) ?_ 1 _ rfl; refine sqK ?_; exact BK366.out) hg (Kd.qH HO_367003.out BK366.out (by decide))); have n7_ := Aside0.mk (hb); have n8_ := Aside0.mk (ho); clear HO_5; clear HO_8; clear HO_363003; clear BK353; clear BK354; clear BK362; clear BK366; clear HB; clear HO_367003; have HO_5 := n0_; have HO_8 := n1_; have HO_363003 := n2_; have BK353 := n3_; have BK354 := n4_; have BK362 := n5_; have BK366 := n6_; have HB := n7_; have HO377 := n8_; clear n0_ n1_ n2_ n3_ n4_ n5_ n6_ n7_ n8_; clear ho hb hg hat; obtain ⟨Ao73, co73, eo73⟩ := Kd.zU HO377.out; subst eo73; have hcz74_0 : w72.cell? ⟨gb366, 0, none⟩ = some (.int .i64 a0_0) := (zb BK366.out 0).trans rfl; have hcz74_1 : w72.cell? ⟨gb366, 1, none⟩ = some (.int .i64 (wrap64 (x367001_1 + 1))) := (zb BK366.out 1).trans rfl; have hcz74_2 : w72.cell? ⟨gb366, 2, none⟩ = some (.int .i64 a0_2) := (zb BK366.out 2).trans rfl; have hcz74_3 : w72.cell? ⟨gb366, 3, none⟩ = some (u367003) := (zb BK366.out 3).trans rfl; have hfz74_0 := za BK366.out 0; have hfz74_1 := za BK366.out 1; have hfz74_2 := za BK366.out 2; have hfz74_3 := za BK366.out 3))
              (try simp only [← hl8_2])
              go_roundg k2
              case measure => have := HK1.out; have := HK2.out; omega
              case rel => exact ⟨(x5_1), (wrap64 (x7_1 + 1)), (x363003_1), (wrap64 (x367001_1 + 1)), (y375), (u363003), (.slice Ao73 y375.length co73), (sqD), H', ⟨by have := HK1.out; have := HK2.out; omega⟩, ⟨by (try simp only [hl8_2]); refine sqR ?_; exact Kd.zo (Kd.zj (p := ⟨gb366, 3, none⟩) (Kd.zF HO_5.out BK366.out (by decide)) (fun _ hk => hk.2) (.slice Ao73 y375.length co73)) (fun _ hk => by first | exact ⟨hk.1.1.2, hk.1.2⟩ | (refine ⟨?_, ?_⟩ <;> intro e_ <;> simp only [e_, ne_eq, not_true_eq_false, and_false, false_and] at hk))⟩, ⟨by (try simp only [hl8_2]); refine sqR ?_; exact Kd.zo (Kd.zj (p := ⟨gb366, 3, none⟩) (Kd.zF HO_363003.out BK366.out (by decide)) (fun _ hk => hk.2) (.slice Ao73 y375.length co73)) (fun _ hk => by first | exact ⟨hk.1.1.1, hk.1.2⟩ | (refine ⟨?_, ?_⟩ <;> intro e_ <;> simp only [e_, ne_eq, not_true_eq_false, and_false, false_and] at hk))⟩, ⟨by (try simp only [hl8_2]); refine sqR ?_; exact Kd.zo (Kd.zj (p := ⟨gb366, 3, none⟩) (Kd.zF HO377.out BK366.out (by decide)) (fun _ hk => hk.2) (.slice Ao73 y375.length co73)) (fun _ hk => by first | exact ⟨hk.1.1, hk.1.2.2⟩ | (refine ⟨?_, ?_⟩ <;> intro e_ <;> simp only [e_, ne_eq, not_true_eq_false, and_false, false_and] at hk))⟩, ⟨by (try simp only [hl8_2]); refine sqK ?_; refine zi ?_ NB353_366.out _; refine sqK ?_; exact BK353.out⟩, ⟨by (try simp only [hl8_2]); refine sqK ?_; refine zi ?_ NB354_366.out _; refine sqK ?_; exact BK354.out⟩, ⟨by (try simp only [hl8_2]); refine sqK ?_; refine zi ?_ NB362_366.out _; refine sqK ?_; exact BK362.out⟩, ⟨by (try simp only [hl8_2]); refine sqK ?_; refine zy (cs := #[.int .i64 a0_0, .int .i64 (wrap64 (x367001_1 + 1)), .int .i64 a0_2, u367003]) ?_ 3 _ rfl; refine sqK ?_; exact BK366.out⟩, ⟨sqB⟩⟩
             ·rw [if_neg c64] at H
              exact absurd H (by simp)
         ·rw [if_neg c36] at H
          exact absurd H (by simp)
        ·rw [if_neg c35] at H
         exact absurd H (by simp)
       ·rw [if_neg c34] at H
        exact absurd H (by simp)
      ·rw [if_neg c33] at H
       exact absurd H (by simp)
    ·rw [if_neg c25] at H
     have c25b0 : decide (x7_1 < a0_2) = false := decide_eq_false c25
     clear c25
     simp only [Option.some.injEq, Prod.mk.injEq] at H
     obtain ⟨rfl, rfl, rfl, rfl, rfl⟩ := H
     have hnb75 := NB353_354.out
     have hnc75 := NB354_353.out
     have hnb76 := NB353_362.out
     have hnc76 := NB362_353.out
     have hnb77 := NB353_366.out
     have hnc77 := NB366_353.out
     have hcz78_0 : wr.cell? ⟨gb353, 0, none⟩ = some (.int .i64 a0_0) := (zb BK353.out 0).trans rfl
     have hcz78_1 : wr.cell? ⟨gb353, 1, none⟩ = some (.int .i64 a0_1) := (zb BK353.out 1).trans rfl
     have hcz78_2 : wr.cell? ⟨gb353, 2, none⟩ = some (.int .i64 a0_2) := (zb BK353.out 2).trans rfl
     have hcz78_3 : wr.cell? ⟨gb353, 3, none⟩ = some (.slice A0_3 l0_3.length c0_3) := (zb BK353.out 3).trans rfl
     have hfz78_0 := za BK353.out 0; have hfz78_1 := za BK353.out 1; have hfz78_2 := za BK353.out 2; have hfz78_3 := za BK353.out 3
     have hnb79 := NB366_354.out
     have hnc79 := NB354_366.out
     have hnb80 := NB366_362.out
     have hnc80 := NB362_366.out
     have hcz81_0 : wr.cell? ⟨gb366, 0, none⟩ = some (.int .i64 a0_0) := (zb BK366.out 0).trans rfl
     have hcz81_1 : wr.cell? ⟨gb366, 1, none⟩ = some (.int .i64 x367001_1) := (zb BK366.out 1).trans rfl
     have hcz81_2 : wr.cell? ⟨gb366, 2, none⟩ = some (.int .i64 a0_2) := (zb BK366.out 2).trans rfl
     have hcz81_3 : wr.cell? ⟨gb366, 3, none⟩ = some (u367003) := (zb BK366.out 3).trans rfl
     have hfz81_0 := za BK366.out 0; have hfz81_1 := za BK366.out 1; have hfz81_2 := za BK366.out 2; have hfz81_3 := za BK366.out 3
     have hnb82 := NB354_362.out
     have hnc82 := NB362_354.out
     have hcz83_0 : wr.cell? ⟨gb354, 0, none⟩ = some (.int .i64 0) := (zb BK354.out 0).trans rfl
     have hcz83_1 : wr.cell? ⟨gb354, 1, none⟩ = some (.int .i64 0) := (zb BK354.out 1).trans rfl
     have hcz83_2 : wr.cell? ⟨gb354, 2, none⟩ = some (.int .i64 0) := (zb BK354.out 2).trans rfl
     have hcz83_3 : wr.cell? ⟨gb354, 3, none⟩ = some (.slice none 0 0) := (zb BK354.out 3).trans rfl
     have hfz83_0 := za BK354.out 0; have hfz83_1 := za BK354.out 1; have hfz83_2 := za BK354.out 2; have hfz83_3 := za BK354.out 3
     obtain ⟨Ao84, co84, eo84⟩ := Kd.zU HO_367003.out
     subst eo84
     go_wp2
     refine bodyPost_ret (vz rfl _ _ gb354 27 #[.int .i64 a0_0, .int .i64 x367001_1, .int .i64 a0_2, .slice Ao84 x367003_1.length co84] (0, 0) _ rfl (by refine sqK ?_; refine zy (cs := #[.int .i64 a0_0, .int .i64 x367001_1, .int .i64 a0_2, .slice none 0 0]) ?_ 3 _ rfl; refine sqK ?_; refine zy (cs := #[.int .i64 a0_0, .int .i64 x367001_1, .int .i64 0, .slice none 0 0]) ?_ 2 _ rfl; refine sqK ?_; refine zy (cs := #[.int .i64 a0_0, .int .i64 0, .int .i64 0, .slice none 0 0]) ?_ 1 _ rfl; refine sqK ?_; refine zy (cs := #[.int .i64 0, .int .i64 0, .int .i64 0, .slice none 0 0]) ?_ 0 _ rfl; refine sqK ?_; exact BK354.out) Try.underlying27 rfl (by kernel_rfl)) rfl ?_
     exact ⟨_, sqE, by refine sqR ?_; exact Kd.zo (Kd.zj (p := ⟨gb354, 3, none⟩) (Kd.zj (p := ⟨gb354, 2, none⟩) (Kd.zj (p := ⟨gb354, 1, none⟩) (Kd.zj (p := ⟨gb354, 0, none⟩) (Kd.zF HO_367003.out BK354.out (by decide)) (fun _ hk => hk.2) (.int .i64 a0_0)) (fun _ hk => hk.2) (.int .i64 x367001_1)) (fun _ hk => hk.2) (.int .i64 a0_2)) (fun _ hk => hk.2) (.slice Ao84 x367003_1.length co84)) (fun _ hk => trivial), sqB⟩
 ·replace c3 := Bool.eq_false_iff.mpr c3
  subst c3
  have H1 : (some (0, 0, 0, ([] : List Int), false)) = some (r1, r2, r3, r4, r5) := by rw [if_neg (show ¬ (false = true) by decide)] at H; exact H
  clear H
  have H := H1
  clear H1
  simp only [Option.some.injEq, Prod.mk.injEq] at H
  obtain ⟨rfl, rfl, rfl, rfl, rfl⟩ := H
  go_enter Try.func34, Try.ntmps34
  go_wp2_with (first | ((with_reducible refine zC (N := 1) rfl ?_); refine zD ?hg (N := 1) ?hd (cs := #[.int .i64 a0_0, .int .i64 a0_1, .int .i64 a0_2, .slice A0_3 l0_3.length c0_3]) (t := 27) ?hr ?_; (case hd => rfl); (case hg => rfl); (case hr => exact sqG); intro gb353 hg w85 hbox hb; have n0_ := Aside0.mk (zg sqB hb); have n1_ := Aside0.mk (hbox); have n2_ := Aside0.mk ((sqS hg : w.heap.size ≤ gb353)); have n3_ := Aside0.mk ((sqS hg : w.heap.size ≤ gb353)); clear HB; have HB := n0_; have BK353 := n1_; have GW353 := n2_; have GE353 := n3_; clear n0_ n1_ n2_ n3_; clear hb hbox hg) | ((with_reducible refine zC (N := 2) rfl ?_); refine zD ?hg (N := 2) ?hd (cs := #[.int .i64 0, .int .i64 0, .int .i64 0, .slice none 0 0]) (t := 27) ?hr ?_; (case hd => rfl); (case hg => rfl); (case hr => exact sqG); intro gb354 hg w86 hbox hb; have n0_ := Aside0.mk (ze (g := gb353) (o := .cells #[.int .i64 a0_0, .int .i64 a0_1, .int .i64 a0_2, .slice A0_3 l0_3.length c0_3] 27 (0, 0)) (sqK BK353.out) hb); have n1_ := Aside0.mk (zg sqB hb); have n2_ := Aside0.mk (hbox); have n3_ := Aside0.mk ((sqS hg : w.heap.size ≤ gb354)); have n4_ := Aside0.mk ((sqS hg : w.heap.size ≤ gb354)); have n5_ := Aside0.mk ((by rw [hg]; exact Nat.ne_of_lt (zI (g := gb353) (o := .cells #[.int .i64 a0_0, .int .i64 a0_1, .int .i64 a0_2, .slice A0_3 l0_3.length c0_3] 27 (0, 0)) (sqK BK353.out)) : gb353 ≠ gb354)); have n6_ := Aside0.mk ((by rw [hg]; exact Nat.ne_of_gt (zI (g := gb353) (o := .cells #[.int .i64 a0_0, .int .i64 a0_1, .int .i64 a0_2, .slice A0_3 l0_3.length c0_3] 27 (0, 0)) (sqK BK353.out)) : gb354 ≠ gb353)); clear BK353; clear HB; have BK353 := n0_; have HB := n1_; have BK354 := n2_; have GW354 := n3_; have GE354 := n4_; have NB353_354 := n5_; have NB354_353 := n6_; clear n0_ n1_ n2_ n3_ n4_ n5_ n6_; clear hb hbox hg; have hnb87 := NB353_354.out; have hnc87 := NB354_353.out; have hcz88_0 : w86.cell? ⟨gb353, 0, none⟩ = some (.int .i64 a0_0) := (zb BK353.out 0).trans rfl; have hcz88_1 : w86.cell? ⟨gb353, 1, none⟩ = some (.int .i64 a0_1) := (zb BK353.out 1).trans rfl; have hcz88_2 : w86.cell? ⟨gb353, 2, none⟩ = some (.int .i64 a0_2) := (zb BK353.out 2).trans rfl; have hcz88_3 : w86.cell? ⟨gb353, 3, none⟩ = some (.slice A0_3 l0_3.length c0_3) := (zb BK353.out 3).trans rfl; have hfz88_0 := za BK353.out 0; have hfz88_1 := za BK353.out 1; have hfz88_2 := za BK353.out 2; have hfz88_3 := za BK353.out 3) | ((with_reducible refine zp (f := 37) rfl ?_); refine zP (some 11) rfl rfl Try.func37 (by kernel_rfl) rfl #[.agg #[.int .i64 a0_0, .int .i64 a0_1, .int .i64 a0_2, .slice A0_3 l0_3.length c0_3]] rfl sqM ?_; (with_reducible refine (zq.calls k a0_0 a0_1 a0_2 _ _ l0_3 false _ ?side1 ?side2 A2.out).mono ?_); (case side1 => exact sqC (Kd.z1 HR0_3.out HB.out)); (case side2 => exact HC0_3.out); rintro e w89 ⟨rfl, hb⟩; refine ⟨_, rfl, ?_⟩; have n0_ := Aside0.mk (ze (g := gb353) (o := .cells #[.int .i64 a0_0, .int .i64 a0_1, .int .i64 a0_2, .slice A0_3 l0_3.length c0_3] 27 (0, 0)) (sqK BK353.out) hb); have n1_ := Aside0.mk (ze (g := gb354) (o := .cells #[.int .i64 0, .int .i64 0, .int .i64 0, .slice none 0 0] 27 (0, 0)) (sqK BK354.out) hb); have n2_ := Aside0.mk (zg sqB hb); clear BK353; clear BK354; clear HB; have BK353 := n0_; have BK354 := n1_; have HB := n2_; clear n0_ n1_ n2_; (try clear hb); (try clear hb2); (try clear hk); (try clear hi); have hcz90_0 : w89.cell? ⟨gb354, 0, none⟩ = some (.int .i64 0) := (zb BK354.out 0).trans rfl; have hcz90_1 : w89.cell? ⟨gb354, 1, none⟩ = some (.int .i64 0) := (zb BK354.out 1).trans rfl; have hcz90_2 : w89.cell? ⟨gb354, 2, none⟩ = some (.int .i64 0) := (zb BK354.out 2).trans rfl; have hcz90_3 : w89.cell? ⟨gb354, 3, none⟩ = some (.slice none 0 0) := (zb BK354.out 3).trans rfl; have hfz90_0 := za BK354.out 0; have hfz90_1 := za BK354.out 1; have hfz90_2 := za BK354.out 2; have hfz90_3 := za BK354.out 3))
  refine bodyPost_ret (vz rfl _ _ gb354 27 #[.int .i64 0, .int .i64 0, .int .i64 0, .slice none 0 0] (0, 0) _ rfl (by refine sqK ?_; refine zy (cs := #[.int .i64 0, .int .i64 0, .int .i64 0, .slice none 0 0]) ?_ 3 _ rfl; refine sqK ?_; refine zy (cs := #[.int .i64 0, .int .i64 0, .int .i64 0, .slice none 0 0]) ?_ 2 _ rfl; refine sqK ?_; refine zy (cs := #[.int .i64 0, .int .i64 0, .int .i64 0, .slice none 0 0]) ?_ 1 _ rfl; refine sqK ?_; refine zy (cs := #[.int .i64 0, .int .i64 0, .int .i64 0, .slice none 0 0]) ?_ 0 _ rfl; refine sqK ?_; exact BK354.out) Try.underlying27 rfl (by kernel_rfl)) rfl ?_
  exact ⟨_, sqE, sqN, sqB⟩

def zQ.l0 : Nat → List Int → Int → Int → Int → Option (Int)
 | 0, _, _, _, _ => none
 | k + 1, x0, x1, x7, x8 => if x8 < x7 then (if 0 ≤ x8 then (if x8 < (x0.length : Int) then (if x1 = (rd x0 x8) then (some x8) else (zQ.l0 k x0 x1 x7 (wrap64 (x8 + 1)))) else (none)) else (none)) else (some (-1))
def zQ.f (k : Nat) (l0 : List Int) (a1 : Int) : Option (Int) := zQ.l0 k l0 a1 (l0.length : Int) 0
theorem zQ.calls (k : Nat) (A0 : Option Addr) (c0 : Nat) (l0 : List Int) (a1 : Int) (r : Int) (w : World) (hr0 : Kd.C (Kd.int .i64) w A0 l0.length l0) (hc0 : l0.length ≤ c0) (h : zQ.f k l0 a1 = some r) :
  Calls Try.prog 74 #[.slice A0 l0.length c0, .int .i64 a1] w fun e w' => e = .returned (.int .i64 r) ∧ zw w w' := by
 have HR0 := Aside0.mk hr0
 have HC0 := Aside0.mk hc0
 clear hr0 hc0
 have H : (zQ.l0 k l0 a1 (l0.length : Int) 0) = some r := h
 clear h
 have H' := Aside0.mk H
 clear H
 go_enter Try.func74, Try.ntmps74
 go_wp2
 go_loopg [8] k (fun kq v8 w' => ∃ (x8_1 : Int), v8 = .int .i64 x8_1 ∧ Aside0 (zQ.l0 kq l0 a1 (l0.length : Int) x8_1 = some r) ∧ Aside0 (kq ≤ k) ∧ zw w w')
 case atStart => exact ⟨(0), (sqD), H', ⟨Nat.le_refl _⟩, by repeat (first | exact zw.refl _ | apply zw.step)⟩
 case round =>
  clear H'
  try clear p2
  obtain ⟨x8_1, rfl, HA, HK1, ⟨m1, rfl⟩⟩ := hrel
  cases gk with
  | zero => exact absurd HA.out (by simp [zQ.l0])
  | succ k1 =>
   have H := HA.out
   clear HA
   simp only [zQ.l0] at H
   by_cases c3 : x8_1 < (l0.length : Int)
   ·rw [if_pos c3] at H
    have c3b0 : decide (x8_1 < (l0.length : Int)) = true := decide_eq_true c3
    clear c3
    by_cases c4 : 0 ≤ x8_1
    ·rw [if_pos c4] at H
     have c4b0 : decide (0 ≤ x8_1) = true := decide_eq_true c4
     clear c4
     by_cases c5 : x8_1 < (l0.length : Int)
     ·rw [if_pos c5] at H
      have c5b0 : decide (x8_1 < (l0.length : Int)) = true := decide_eq_true c5
      clear c5
      by_cases c6 : a1 = (rd l0 x8_1)
      ·rw [if_pos c6] at H
       have c6b0 : (a1 == (rd l0 x8_1)) = true := beq_iff_eq.mpr c6
       have c6b1 : (a1 != (rd l0 x8_1)) = false := bne_eq_false_iff_eq.mpr c6
       clear c6
       obtain rfl := Option.some.inj H
       have p378 : 0 ≤ (x8_1 : Int) := of_decide_eq_true sqA
       have q378 : x8_1 < (l0.length : Int) := of_decide_eq_true sqA
       obtain ⟨ad378, e378, hx378_0⟩ := Kd.qh HR0.out x8_1 p378 q378
       cases e378
       replace p378 := eq_true p378
       replace q378 := eq_true q378
       go_wp2
       go_ret
       exact ⟨sqD, by repeat (first | exact zw.refl _ | apply zw.step)⟩
      ·rw [if_neg c6] at H
       have c6b0 : (a1 == (rd l0 x8_1)) = false := beq_eq_false_iff_ne.mpr c6
       have c6b1 : (a1 != (rd l0 x8_1)) = true := bne_iff_ne.mpr c6
       have H' := Aside0.mk H
       clear H
       have p378 : 0 ≤ (x8_1 : Int) := of_decide_eq_true sqA
       have q378 : x8_1 < (l0.length : Int) := of_decide_eq_true sqA
       obtain ⟨ad378, e378, hx378_0⟩ := Kd.qh HR0.out x8_1 p378 q378
       cases e378
       replace p378 := eq_true p378
       replace q378 := eq_true q378
       go_wp2
       go_roundg k1
       case measure => have := HK1.out; omega
       case rel => exact ⟨(wrap64 (x8_1 + 1)), (sqD), H', ⟨by have := HK1.out; omega⟩, by repeat (first | exact zw.refl _ | apply zw.step)⟩
     ·rw [if_neg c5] at H
      exact absurd H (by simp)
    ·rw [if_neg c4] at H
     exact absurd H (by simp)
   ·rw [if_neg c3] at H
    have c3b0 : decide (x8_1 < (l0.length : Int)) = false := decide_eq_false c3
    clear c3
    obtain rfl := Option.some.inj H
    go_wp2
    go_ret
    exact ⟨sqD, by repeat (first | exact zw.refl _ | apply zw.step)⟩

def qt.f (k : Nat) (l0 : List Int) (a1 : Int) : Option (Bool) := (zQ.f k l0 a1).bind fun t379 => (some (decide (t379 ≥ 0)))
theorem qt.calls (k : Nat) (A0 : Option Addr) (c0 : Nat) (l0 : List Int) (a1 : Int) (r : Bool) (w : World) (hr0 : Kd.C (Kd.int .i64) w A0 l0.length l0) (hc0 : l0.length ≤ c0) (h : qt.f k l0 a1 = some r) :
  Calls Try.prog 65 #[.slice A0 l0.length c0, .int .i64 a1] w fun e w' => e = .returned (.bool r) ∧ zw w w' := by
 have HR0 := Aside0.mk hr0
 have HC0 := Aside0.mk hc0
 clear hr0 hc0
 have H : ((zQ.f k l0 a1).bind fun t379 => (some (decide (t379 ≥ 0)))) = some r := h
 clear h
 replace H := Option.bind_eq_some_iff.mp H
 obtain ⟨t379, A30, H⟩ := H
 replace H : (some (decide (t379 ≥ 0))) = some r := H
 have A3 := Aside0.mk A30
 clear A30
 obtain rfl := Option.some.inj H
 go_enter Try.func65, Try.ntmps65
 go_wp2_with (first | ((with_reducible refine zp (f := 74) rfl ?_); refine zP (some 7) rfl rfl Try.func74 (by kernel_rfl) rfl #[.slice A0 l0.length c0, .int .i64 a1] rfl sqM ?_; (with_reducible refine (zQ.calls k _ _ l0 a1 t379 _ ?side1 ?side2 A3.out).mono ?_); (case side1 => exact sqC HR0.out); (case side2 => exact HC0.out); rintro e w' ⟨rfl, ⟨nd, rfl⟩⟩; refine ⟨_, rfl, ?_⟩))
 go_ret
 exact ⟨sqD, by repeat (first | exact zw.refl _ | apply zw.step)⟩

end Go.Proofs.Ytopkfhnnapncgaa.F
end
section
namespace Go.Proofs.Ytopkfhnnapncgaa.F
open Go.RowKit Go.Proofs.YtopkfhnnapncgaaW.PrintWords Go.Proofs.YtopkfhnnapncgaaW.PrintLast Go.Proofs.YtopkfhnnapncgaaW.PrintMore
attribute [local go_sem] jG jE jY j8 jl jk jK jM   -- for this text's walks alone
set_option linter.unusedVariables false
set_option linter.unusedSimpArgs false

def q6.f (a0_0 : Int) (a0_1 : Int) (a0_2 : Int) (l0_3 : List Int) (a1 : Int) (a2 : Int) : Option (Int) := if 0 ≤ (wrap64 ((wrap64 (a1 * a0_2)) + a2)) then (if (wrap64 ((wrap64 (a1 * a0_2)) + a2)) < (l0_3.length : Int) then (some (rd l0_3 (wrap64 ((wrap64 (a1 * a0_2)) + a2)))) else (none)) else (none)
theorem q6.calls (a0_0 : Int) (a0_1 : Int) (a0_2 : Int) (A0_3 : Option Addr) (c0_3 : Nat) (l0_3 : List Int) (a1 : Int) (a2 : Int) (r : Int) (w : World) (hr0_3 : Kd.C (Kd.int .i64) w A0_3 l0_3.length l0_3) (hc0_3 : l0_3.length ≤ c0_3) (h : q6.f a0_0 a0_1 a0_2 l0_3 a1 a2 = some r) :
  Calls Try.prog 40 #[.agg #[.int .i64 a0_0, .int .i64 a0_1, .int .i64 a0_2, .slice A0_3 l0_3.length c0_3], .int .i64 a1, .int .i64 a2] w fun e w' => e = .returned (.int .i64 r) ∧ Below w.heap.size w w' := by
 have hu27 := Try.underlying27
 have HR0_3 := Aside0.mk hr0_3
 have HC0_3 := Aside0.mk hc0_3
 clear hr0_3 hc0_3
 have HB := Aside0.mk (Below.refl w.heap.size w)
 have H : (if 0 ≤ (wrap64 ((wrap64 (a1 * a0_2)) + a2)) then (if (wrap64 ((wrap64 (a1 * a0_2)) + a2)) < (l0_3.length : Int) then (some (rd l0_3 (wrap64 ((wrap64 (a1 * a0_2)) + a2)))) else (none)) else (none)) = some r := h
 clear h
 obtain ⟨ji4, hji4⟩ : ∃ j_ : Int, (wrap64 ((wrap64 (a1 * a0_2)) + a2)) = j_ := ⟨_, rfl⟩
 replace H : (if 0 ≤ (ji4) then (if (ji4) < (l0_3.length : Int) then (some (rd l0_3 (ji4))) else (none)) else (none)) = some r := by first | (rw [hji4] at H; exact H) | (simp only [hji4] at H ⊢; exact H)
 have hji4w : (IntKind.i64.wrap ((wrap64 (a1 * a0_2)) + a2)) = ji4 := (zf _).trans hji4
 by_cases c5 : 0 ≤ (ji4)
 ·rw [if_pos c5] at H
  have c5b0 : decide (0 ≤ (ji4)) = true := decide_eq_true c5
  clear c5
  by_cases c6 : (ji4) < (l0_3.length : Int)
  ·rw [if_pos c6] at H
   have c6b0 : decide ((ji4) < (l0_3.length : Int)) = true := decide_eq_true c6
   clear c6
   obtain rfl := Option.some.inj H
   go_enter Try.func40, Try.ntmps40
   go_wp2_with (first | ((with_reducible refine zC (N := 3) rfl ?_); refine zD ?hg (N := 3) ?hd (cs := #[.int .i64 a0_0, .int .i64 a0_1, .int .i64 a0_2, .slice A0_3 l0_3.length c0_3]) (t := 27) ?hr ?_; (case hd => rfl); (case hg => rfl); (case hr => exact sqG); intro gb280 hg w7 hbox hb; have n0_ := Aside0.mk (zg sqB hb); have n1_ := Aside0.mk (hbox); have n2_ := Aside0.mk ((sqS hg : w.heap.size ≤ gb280)); have n3_ := Aside0.mk ((sqS hg : w.heap.size ≤ gb280)); clear HB; have HB := n0_; have BK280 := n1_; have GW280 := n2_; have GE280 := n3_; clear n0_ n1_ n2_ n3_; clear hb hbox hg; have hcz8_0 : w7.cell? ⟨gb280, 0, none⟩ = some (.int .i64 a0_0) := (zb BK280.out 0).trans rfl; have hcz8_1 : w7.cell? ⟨gb280, 1, none⟩ = some (.int .i64 a0_1) := (zb BK280.out 1).trans rfl; have hcz8_2 : w7.cell? ⟨gb280, 2, none⟩ = some (.int .i64 a0_2) := (zb BK280.out 2).trans rfl; have hcz8_3 : w7.cell? ⟨gb280, 3, none⟩ = some (.slice A0_3 l0_3.length c0_3) := (zb BK280.out 3).trans rfl; have hfz8_0 := za BK280.out 0; have hfz8_1 := za BK280.out 1; have hfz8_2 := za BK280.out 2; have hfz8_3 := za BK280.out 3; have p281 : 0 ≤ ((ji4) : Int) := of_decide_eq_true sqA; have q281 : (ji4) < (l0_3.length : Int) := of_decide_eq_true sqA; obtain ⟨ad281, e281, hx281_0⟩ := Kd.qh HR0_3.out (ji4) p281 q281; cases e281; replace hx281_0 := (HB.out.cell (World.block_lt_of_cell? w _ hx281_0)).trans hx281_0; replace p281 := eq_true p281; replace q281 := eq_true q281))
   go_ret
   exact ⟨by first | rfl | (simp [jo, jq] <;> rfl) | (simp only [← hji4]; first | rfl | (simp [jo, jq] <;> rfl)) | (simp [*, jo, jq] <;> rfl), sqB⟩
  ·rw [if_neg c6] at H
   exact absurd H (by simp)
 ·rw [if_neg c5] at H
  exact absurd H (by simp)

end Go.Proofs.Ytopkfhnnapncgaa.F
end
section
namespace Go.Proofs.Ytopkfhnnapncgaa.F
open Go.RowKit Go.Proofs.YtopkfhnnapncgaaW.PrintWords Go.Proofs.YtopkfhnnapncgaaW.PrintLast Go.Proofs.YtopkfhnnapncgaaW.PrintMore
set_option linter.unusedSimpArgs false
set_option linter.unusedVariables false
/-- The table with rows i and j changed about. -/
def Q7 (l : List (List Int)) (i j : Int) : Option (List (List Int)) :=
  if 0 ≤ i ∧ i < (l.length : Int) ∧ 0 ≤ j ∧ j < (l.length : Int) then some ((l.set i.toNat (l.getD j.toNat [])).set j.toNat (l.getD i.toNat [])) else none
theorem Jx {l r : List (List Int)} {i j : Int} (h : Q7 l i j = some r) : 0 ≤ i ∧ i < (l.length : Int) ∧ 0 ≤ j ∧ j < (l.length : Int) ∧ r = (l.set i.toNat (l.getD j.toNat [])).set j.toNat (l.getD i.toNat []) := by
  unfold Q7 at h
  split at h
  · rename_i c; exact ⟨c.1, c.2.1, c.2.2.1, c.2.2.2, (Option.some.inj h).symm⟩
  · cases h
theorem VE {α : Type} (l : List α) (m : Nat) {x : α} (h : l[m]? = some x) : (l.drop (m * 1)).take 1 = [x] := by
  rw [Nat.mul_one]
  obtain ⟨hm, rfl⟩ := List.getElem?_eq_some_iff.1 h
  rw [List.drop_eq_getElem_cons hm]
  rfl
theorem YE {α : Type} {d : Kd α} (hs : d.sz = 1) {e g n cap i j base : Nat} {ok : Nat → Prop} {W : World} {xs : List α} (h : Kd.S d e W base ok (.slice (some ⟨g, 0, none⟩) n cap) xs) (z : α) (hi : i < xs.length) (hj : j < xs.length) {u v : Value}
    (hu : W.cell? ⟨g, i, none⟩ = some u) (hv : W.cell? ⟨g, j, none⟩ = some v) :
    Kd.S d e ((W.setCell ⟨g, i, none⟩ v).setCell ⟨g, j, none⟩ u) base ok (.slice (some ⟨g, 0, none⟩) n cap) ((xs.set i (xs.getD j z)).set j (xs.getD i z)) := by
  obtain ⟨f, hok, inner, ho, hr⟩ := h
  obtain ⟨hil, hcase⟩ := ho
  rcases hcase with ⟨hv0, _⟩ | ⟨g', cap', cur, hvv, hbase, hblk, hn, hm, hsz, htake⟩
  · cases hv0
  injection hvv with ha hn' hc'
  injection ha with ha
  injection ha with ha _ _
  subst ha
  subst hc'
  have hlen : xs.zipIdx.length = xs.length := List.length_zipIdx
  rw [hlen] at hn' hil htake hn
  subst hn'
  change inner.length = xs.length * d.sz at hil
  change cur.size = cap * d.sz at hsz
  change cur.toList.take (xs.length * d.sz) = inner at htake
  have hiC : i < cur.size := by rw [hsz, hs]; omega
  have hjC : j < cur.size := by rw [hsz, hs]; omega
  have hcell : ∀ m, W.cell? ⟨g, m, none⟩ = cur[m]? := fun m => zb hblk m
  rw [hcell] at hu hv
  have hin : ∀ m, m < xs.length → inner[m]? = cur[m]? := fun m hm => by
    rw [← htake, List.getElem?_take, if_pos (by rw [hs]; omega), Array.getElem?_toList]
  have hb2 : ((W.setCell ⟨g, i, none⟩ v).setCell ⟨g, j, none⟩ u).heap[g]? = some (.cells ((cur.setIfInBounds i v).setIfInBounds j u) e (0, 0)) := by
    simp [World.setCell, hblk, Array.getElem?_modify]
  have hfar : ∀ k, k ≠ g → ((W.setCell ⟨g, i, none⟩ v).setCell ⟨g, j, none⟩ u).heap[k]? = W.heap[k]? := fun k hk => (Below.heap_setCell _ ⟨g, j, none⟩ u k hk).trans (Below.heap_setCell _ ⟨g, i, none⟩ v k hk)
  have hlen' : ((xs.set i (xs.getD j z)).set j (xs.getD i z)).length = xs.length := by rw [List.length_set, List.length_set]
  refine ⟨fun k => if f k = i then j else if f k = j then i else f k, hok, (inner.set i v).set j u, ⟨?_, Or.inr ⟨g, cap, _, ?_, hbase, hb2, ?_, hm, ?_, ?_⟩⟩, ?_, fun m p hp => ?_⟩
  · rw [List.length_set, List.length_set, hil, List.length_zipIdx, hlen']; rfl
  · rw [List.length_zipIdx, hlen']
  · rw [List.length_zipIdx, hlen']; exact hn
  · rw [Array.size_setIfInBounds, Array.size_setIfInBounds]; exact hsz
  · rw [List.length_zipIdx, hlen']
    change List.take (xs.length * d.sz) _ = _
    rw [← htake, Array.toList_setIfInBounds, Array.toList_setIfInBounds, List.take_set, List.take_set]
  · rw [List.length_set, List.length_set, hil, List.length_zipIdx, hlen']; rfl
  · have hpm : p.2 = m ∧ ((xs.set i (xs.getD j z)).set j (xs.getD i z))[m]? = some p.1 := by
      rw [List.getElem?_zipIdx, Nat.zero_add] at hp
      obtain ⟨q, hq, rfl⟩ := Option.map_eq_some_iff.1 hp
      exact ⟨rfl, hq⟩
    obtain ⟨hp2, hp1⟩ := hpm
    have hml : m < xs.length := by
      have := (List.getElem?_eq_some_iff.1 hp1).1
      rw [hlen'] at this; exact this
    have old : ∀ m', m' < xs.length → ∀ x, xs[m']? = some x → ∀ c, inner[m']? = some c → d.M W base (fun k => (ok k ∧ some k ≠ (Value.slice (some ⟨g, 0, none⟩) xs.length cap).ownBlock) ∧ f k = m') x [c] := fun m' hm' x hx c hc => by
      have h1 := hr.2 m' (x, m') (Kd.Z5 hx)
      change d.M W base _ x ((inner.drop (m' * d.sz)).take d.sz) at h1
      rw [hs, VE inner m' hc] at h1
      exact h1
    have give : ∀ m', m' < xs.length → ∀ c, inner[m']? = some c → (∀ k, f k = m' → (if f k = i then j else if f k = j then i else f k) = m) → xs[m']? = some p.1 → ((inner.set i v).set j u)[m]? = some c →
        d.M ((W.setCell ⟨g, i, none⟩ v).setCell ⟨g, j, none⟩ u) base (fun k => (ok k ∧ some k ≠ (Value.slice (some ⟨g, 0, none⟩) xs.length cap).ownBlock) ∧ (if f k = i then j else if f k = j then i else f k) = p.2) p.1 ((((inner.set i v).set j u).drop (m * d.sz)).take d.sz) := fun m' hm' c hc hf hx hnew => by
      rw [hs, VE _ m hnew, hp2]
      refine d.M_mono (fun k hk => ⟨hk.1, hf k hk.2⟩) (d.M_move (fun k hk => hfar k ?_) (old m' hm' _ hx c hc))
      intro he
      exact hk.1.2 (by rw [he]; rfl)
    have hil' : i < inner.length := by rw [hil, hs]; omega
    have hjl' : j < inner.length := by rw [hil, hs]; omega
    have gd : ∀ m', m' < xs.length → xs[m']? = some (xs.getD m' z) := fun m' hm' => by rw [List.getD_eq_getElem?_getD, List.getElem?_eq_getElem hm']; rfl
    by_cases c1 : m = j
    · subst c1
      rw [List.getElem?_set_self (by rw [List.length_set]; exact hj)] at hp1
      refine give i hi u ((hin i hi).trans hu) (fun k hk => by rw [if_pos hk]) ?_ ?_
      · rw [gd i hi]; exact hp1
      · rw [List.getElem?_set_self (by rw [List.length_set]; exact hjl')]
    · rw [List.getElem?_set_ne (Ne.symm c1)] at hp1
      by_cases c2 : m = i
      · subst c2
        rw [List.getElem?_set_self hi] at hp1
        refine give j hj v ((hin j hj).trans hv) (fun k hk => by rw [if_neg (by omega), if_pos hk]) ?_ ?_
        · rw [gd j hj]; exact hp1
        · rw [List.getElem?_set_ne (Ne.symm c1), List.getElem?_set_self hil']
      · rw [List.getElem?_set_ne (Ne.symm c2)] at hp1
        have hmi : m < inner.length := by rw [hil, hs]; omega
        refine give m hml inner[m] (List.getElem?_eq_getElem hmi) (fun k hk => by rw [if_neg (by omega), if_neg (by omega)]; exact hk) hp1 ?_
        rw [List.getElem?_set_ne (Ne.symm c1), List.getElem?_set_ne (Ne.symm c2), List.getElem?_eq_getElem hmi]
/-- Two blocks whose cells are of different types are two. -/
theorem Jm {W : World} {g h t s : Nat} {a b : Array Value} (hg : W.heap[g]? = some (.cells a t (0, 0))) (hh : W.heap[h]? = some (.cells b s (0, 0))) (hts : t ≠ s) : g ≠ h := by
  rintro rfl
  rw [hg] at hh
  injection hh with hh
  injection hh with _ hh _
  exact hts hh
theorem Q1 {W : World} {g h t : Nat} {cs : Array Value} {i j : Nat} {u v : Value} (hb : W.heap[g]? = some (.cells cs t (0, 0))) (hne : g ≠ h) : ((W.setCell ⟨h, i, none⟩ u).setCell ⟨h, j, none⟩ v).heap[g]? = some (.cells cs t (0, 0)) :=
  zi (zi hb hne u) hne v
theorem YK {α : Type} {d : Kd α} {e W base ok v xs} (h : d.R e W base ok v xs) {g t : Nat} {cells : Array Value} (hb : W.heap[g]? = some (.cells cells t (0, 0))) (ht : ∀ q, q ∈ e :: d.E → q ≠ t) (i j : Nat) (x y : Value) : d.R e ((W.setCell ⟨g, i, none⟩ x).setCell ⟨g, j, none⟩ y) base ok v xs :=
  Kd.zo (Kd.zj (p := ⟨g, j, none⟩) (Kd.zj (p := ⟨g, i, none⟩) (Kd.zF h hb ht) (fun _ hk => hk.2) x) (fun _ hk => hk.2) y) (fun _ hk => hk.1)
end Go.Proofs.Ytopkfhnnapncgaa.F
end
