/- Several texts of this session in one: Fx29, Fx31, Bits, Loops, LSets, Mat, LSubset, Fx24, LFamily, LMatroid, LRank, LSetsOf, LIndep, LSortSets, LMinimal, LMaximal, Fx6, LLists, LSame, LFromIndep, Fx19, Fx34. Conditions: as each theorem says. -/
import Derived.Test.YteggmbhcnhbamaaZFromHyperplanes0
import Derived.Test.YteggmbhcnhbamaaZFromHyperplanes1
import Derived.Test.YteggmbhcnhbamaaZFromHyperplanes2
import Derived.Laws.BitsLemmas
import Derived.Test.YteggmbhcnhbamaaZFromHyperplanes3
import Derived.Test.YteggmbhcnhbamaaZFromHyperplanes4
set_option maxHeartbeats 8000000
set_option maxRecDepth 100000
section
namespace Go.Proofs.Yteggmbhcnhbamaa.F
open Go.RowKit Go.Proofs.YteggmbhcnhbamaaW.PrintWords Go.Proofs.YteggmbhcnhbamaaW.PrintLast Go.Proofs.YteggmbhcnhbamaaW.PrintMore
attribute [local go_sem] qJ qM q2 q4 qy qx qL qK   -- for this text's walks alone
set_option linter.unusedVariables false
set_option linter.unusedSimpArgs false

mutual
def zN.l0 : Nat → List Int → List Int → Int → Option (List Int)
 | 0, _, _, _ => none
 | k + 1, x0, x3, x4 => if x4 < (x0.length : Int) then (zN.l1 k x0 x3 x4 true 0) else ((zk.f k x3).bind fun t313 => (some t313))
def zN.l1 : Nat → List Int → List Int → Int → Bool → Int → Option (List Int)
 | 0, _, _, _, _, _ => none
 | k + 1, x0, x3, x4, x5, x6 => if x6 < (x0.length : Int) then (if x5 = true then (if 0 ≤ x6 then (if 0 ≤ x4 then (if x4 < (x0.length : Int) then (if (rd x0 x6) = (rd x0 x4) then (zN.l1 k x0 x3 x4 true (wrap64 (x6 + 1))) else (zN.l1 k x0 x3 x4 ((Go.bits .and .i64 (rd x0 x6) (rd x0 x4)) != (rd x0 x4)) (wrap64 (x6 + 1)))) else (none)) else (none)) else (none)) else (zN.l1 k x0 x3 x4 false (wrap64 (x6 + 1)))) else (if x5 = true then (if 0 ≤ x4 then (if x4 < (x0.length : Int) then (if x3.length < 17592186044416 then (zN.l0 k x0 (x3 ++ [rd x0 x4]) (wrap64 (x4 + 1))) else (none)) else (none)) else (none)) else (zN.l0 k x0 x3 (wrap64 (x4 + 1))))
end
def zN.f (k : Nat) (l0 : List Int) : Option (List Int) := (some (([] : List Int) : List Int)).bind fun y309 => ((z6.f k 8 l0).bind fun t312 => (if t312 = true then (zN.l0 k l0 y309 0) else (some y309)))
theorem zN.calls (k : Nat) (A0 : Option Addr) (c0 : Nat) (l0 : List Int) (r : List Int) (w : World) (hr0 : Kd.C (Kd.int .i64) w A0 l0.length l0) (hc0 : l0.length ≤ c0) (h : zN.f k l0 = some r) :
  Calls Try.prog 49 #[.slice A0 l0.length c0] w fun e w' => ∃ v0_ : Value, e = .returned (v0_) ∧ Kd.R (Kd.int .i64) 3 w' w.heap.size (fun _ => True) v0_ r ∧ Below w.heap.size w w' := by
 have HR0 := Aside0.mk hr0
 have HC0 := Aside0.mk hc0
 clear hr0 hc0
 have HB := Aside0.mk (Below.refl w.heap.size w)
 have H : ((some (([] : List Int) : List Int)).bind fun y309 => ((z6.f k 8 l0).bind fun t312 => (if t312 = true then (zN.l0 k l0 y309 0) else (some y309)))) = some r := h
 clear h
 obtain ⟨y309, hy309⟩ : ∃ y_ : List Int, y_ = (([] : List Int)) := ⟨_, rfl⟩
 replace H : ((z6.f k 8 l0).bind fun t312 => (if t312 = true then (zN.l0 k l0 y309 0) else (some y309))) = some r := by first | (rw [hy309]; with_reducible exact H) | (have H2_ := (Option.bind_some _ _).symm.trans H; rw [hy309]; with_reducible exact H2_) | (have H2_ := (Option.bind_some _ _).symm.trans H; with_reducible exact H2_) | with_reducible exact H | (rw [hy309]; exact H) | exact H
 have Ny309 := Aside0.mk hy309
 clear hy309
 replace H := Option.bind_eq_some_iff.mp H
 obtain ⟨t312, A20, H⟩ := H
 replace H : (if t312 = true then (zN.l0 k l0 y309 0) else (some y309)) = some r := H
 have A2 := Aside0.mk A20
 clear A20
 by_cases c3 : t312 = true
 ·subst c3
  have H1 : (zN.l0 k l0 y309 0) = some r := by rw [if_pos rfl] at H; exact H
  clear H
  have H := H1
  clear H1
  have H' := Aside0.mk H
  clear H
  go_enter Try.func49, Try.ntmps49
  go_wp2_with (first | ((with_reducible refine zi (N := 7) rfl ?_); refine Kd.jx (Kd.int .i64) _ 3 ?hg (N := 7) ?hd (xs := ([] : List Int)) (inner := []) (ok := fun _ => True) (okp := fun _ => True) ?hr ?hp (fun _ hk => hk) trivial (Below.refl _ _) (Nat.le_refl _) (by simp) ?_; (case hd => rfl); (case hg => rfl); (case hr => exact sqG); (case hp => exact (qT.none _ _)); intro v310 w4 ho5 hb hg_ hnew_; clear hg_ hnew_; (first | rw [← Ny309.out] at ho5 | (simp only [Int.reduceToNat] at ho5; rw [← Ny309.out] at ho5)); have n0_ := Aside0.mk (Kd.zD ho5 (zg sqB)); have n1_ := Aside0.mk (zc sqB hb); clear HB; have HO311 := n0_; have HB := n1_; clear n0_ n1_; clear hb ho5) | (go_at_call 87; (try simp only [zj, zo]); (with_reducible refine (z6.calls k 8 _ _ l0 true _ ?side1 ?side2 A2.out).mono ?_); (case side1 => exact sqC (Kd.zp HR0.out HB.out)); (case side2 => exact HC0.out); rintro e w' ⟨rfl, ⟨nd, rfl⟩⟩; (try first | exact ⟨rfl, _, World.drewN_drewN _ _ _⟩ | exact ⟨rfl, _, Eq.trans (World.drewN_drewN _ _ _) (congrArg (World.drewN _) (Nat.add_assoc _ _ _))⟩)))
  repeat (go_quiet (first | ((with_reducible refine zi (N := 7) rfl ?_); refine Kd.jx (Kd.int .i64) _ 3 ?hg (N := 7) ?hd (xs := ([] : List Int)) (inner := []) (ok := fun _ => True) (okp := fun _ => True) ?hr ?hp (fun _ hk => hk) trivial (Below.refl _ _) (Nat.le_refl _) (by simp) ?_; (case hd => rfl); (case hg => rfl); (case hr => exact sqG); (case hp => exact (qT.none _ _)); intro v310 w4 ho5 hb hg_ hnew_; clear hg_ hnew_; (first | rw [← Ny309.out] at ho5 | (simp only [Int.reduceToNat] at ho5; rw [← Ny309.out] at ho5)); have n0_ := Aside0.mk (Kd.zD ho5 (zg sqB)); have n1_ := Aside0.mk (zc sqB hb); clear HB; have HO311 := n0_; have HB := n1_; clear n0_ n1_; clear hb ho5) | (go_at_call 87; (try simp only [zj, zo]); (with_reducible refine (z6.calls k 8 _ _ l0 true _ ?side1 ?side2 A2.out).mono ?_); (case side1 => exact sqC (Kd.zp HR0.out HB.out)); (case side2 => exact HC0.out); rintro e w' ⟨rfl, ⟨nd, rfl⟩⟩; (try first | exact ⟨rfl, _, World.drewN_drewN _ _ _⟩ | exact ⟨rfl, _, Eq.trans (World.drewN_drewN _ _ _) (congrArg (World.drewN _) (Nat.add_assoc _ _ _))⟩))); try go_wp2_with (first | ((with_reducible refine zi (N := 7) rfl ?_); refine Kd.jx (Kd.int .i64) _ 3 ?hg (N := 7) ?hd (xs := ([] : List Int)) (inner := []) (ok := fun _ => True) (okp := fun _ => True) ?hr ?hp (fun _ hk => hk) trivial (Below.refl _ _) (Nat.le_refl _) (by simp) ?_; (case hd => rfl); (case hg => rfl); (case hr => exact sqG); (case hp => exact (qT.none _ _)); intro v310 w4 ho5 hb hg_ hnew_; clear hg_ hnew_; (first | rw [← Ny309.out] at ho5 | (simp only [Int.reduceToNat] at ho5; rw [← Ny309.out] at ho5)); have n0_ := Aside0.mk (Kd.zD ho5 (zg sqB)); have n1_ := Aside0.mk (zc sqB hb); clear HB; have HO311 := n0_; have HB := n1_; clear n0_ n1_; clear hb ho5) | (go_at_call 87; (try simp only [zj, zo]); (with_reducible refine (z6.calls k 8 _ _ l0 true _ ?side1 ?side2 A2.out).mono ?_); (case side1 => exact sqC (Kd.zp HR0.out HB.out)); (case side2 => exact HC0.out); rintro e w' ⟨rfl, ⟨nd, rfl⟩⟩; (try first | exact ⟨rfl, _, World.drewN_drewN _ _ _⟩ | exact ⟨rfl, _, Eq.trans (World.drewN_drewN _ _ _) (congrArg (World.drewN _) (Nat.add_assoc _ _ _))⟩))))
  go_loopg [3, 4] k (fun kq v3 v4 w' => ∃ (x3_1 : List Int) (x4_1 : Int), v4 = .int .i64 x4_1 ∧ Aside0 (zN.l0 kq l0 x3_1 x4_1 = some r) ∧ Aside0 (kq ≤ k) ∧ Aside0 (Kd.R (Kd.int .i64) 3 w' w.heap.size (fun _ => True) v3 x3_1) ∧ Aside0 (Below w.heap.size w w'))
  case atStart => exact ⟨(y309), (0), (sqD), H', ⟨Nat.le_refl _⟩, ⟨sqR HO311.out⟩, ⟨sqB⟩⟩
  case round =>
   clear H'
   try clear p2
   try clear c3
   try clear c4
   obtain ⟨x3_1, x4_1, rfl, HA, HK1, HO_3, HB⟩ := hrel
   cases gk with
   | zero => exact absurd HA.out (by simp [zN.l0])
   | succ k1 =>
    have H := HA.out
    clear HA
    simp only [zN.l0] at H
    by_cases c6 : x4_1 < (l0.length : Int)
    ·rw [if_pos c6] at H
     have c6b0 : decide (x4_1 < (l0.length : Int)) = true := decide_eq_true c6
     clear c6
     have H' := Aside0.mk H
     clear H
     go_wp2
     repeat (go_quiet (fail); try go_wp2)
     go_loopg [5, 6] k1 (fun kq v5 v6 w' => ∃ (x5_2 : Bool) (x6_2 : Int), v5 = .bool x5_2 ∧ v6 = .int .i64 x6_2 ∧ Aside0 (zN.l1 kq l0 x3_1 x4_1 x5_2 x6_2 = some r) ∧ Aside0 (kq ≤ k1) ∧ Aside0 (Kd.R (Kd.int .i64) 3 w' w.heap.size (fun _ => True) u3 x3_1) ∧ Aside0 (Below w.heap.size w w'))
     case atStart => exact ⟨(true), (0), (sqD), (sqD), H', ⟨Nat.le_refl _⟩, ⟨sqR HO_3.out⟩, ⟨sqB⟩⟩
     case round =>
      clear H'
      try clear p2
      try clear c3
      try clear c4
      try clear c6
      try clear c6b0
      try clear p2
      obtain ⟨x5_2, x6_2, rfl, rfl, HA, HK2, HO_3, HB⟩ := hrel
      cases gk with
      | zero => exact absurd HA.out (by simp [zN.l1])
      | succ k2 =>
       have H := HA.out
       clear HA
       simp only [zN.l1] at H
       by_cases c7 : x6_2 < (l0.length : Int)
       ·rw [if_pos c7] at H
        have c7b0 : decide (x6_2 < (l0.length : Int)) = true := decide_eq_true c7
        clear c7
        by_cases c8 : x5_2 = true
        ·subst c8
         have H1 : (if 0 ≤ x6_2 then (if 0 ≤ x4_1 then (if x4_1 < (l0.length : Int) then (if (rd l0 x6_2) = (rd l0 x4_1) then (zN.l1 k2 l0 x3_1 x4_1 true (wrap64 (x6_2 + 1))) else (zN.l1 k2 l0 x3_1 x4_1 ((Go.bits .and .i64 (rd l0 x6_2) (rd l0 x4_1)) != (rd l0 x4_1)) (wrap64 (x6_2 + 1)))) else (none)) else (none)) else (none)) = some r := by rw [if_pos rfl] at H; exact H
         clear H
         have H := H1
         clear H1
         by_cases c9 : 0 ≤ x6_2
         ·rw [if_pos c9] at H
          have c9b0 : decide (0 ≤ x6_2) = true := decide_eq_true c9
          clear c9
          by_cases c10 : 0 ≤ x4_1
          ·rw [if_pos c10] at H
           have c10b0 : decide (0 ≤ x4_1) = true := decide_eq_true c10
           clear c10
           by_cases c11 : x4_1 < (l0.length : Int)
           ·rw [if_pos c11] at H
            have c11b0 : decide (x4_1 < (l0.length : Int)) = true := decide_eq_true c11
            clear c11
            by_cases c12 : (rd l0 x6_2) = (rd l0 x4_1)
            ·rw [if_pos c12] at H
             have c12b0 : ((rd l0 x6_2) == (rd l0 x4_1)) = true := beq_iff_eq.mpr c12
             have c12b1 : ((rd l0 x6_2) != (rd l0 x4_1)) = false := bne_eq_false_iff_eq.mpr c12
             clear c12
             have H' := Aside0.mk H
             clear H
             have p316 : 0 ≤ (x6_2 : Int) := of_decide_eq_true sqA
             have q316 : x6_2 < (l0.length : Int) := of_decide_eq_true sqA
             obtain ⟨ad316, e316, hx316_0⟩ := Kd.zT HR0.out x6_2 p316 q316
             cases e316
             replace hx316_0 := (HB.out.cell (World.block_lt_of_cell? w _ hx316_0)).trans hx316_0
             replace p316 := eq_true p316
             replace q316 := eq_true q316
             have p317 : 0 ≤ (x4_1 : Int) := of_decide_eq_true sqA
             have q317 : x4_1 < (l0.length : Int) := of_decide_eq_true sqA
             obtain ⟨ad317, e317, hx317_0⟩ := Kd.zT HR0.out x4_1 p317 q317
             obtain rfl : ad316 = ad317 := (by injection e317)
             replace hx317_0 := (HB.out.cell (World.block_lt_of_cell? w _ hx317_0)).trans hx317_0
             replace p317 := eq_true p317
             replace q317 := eq_true q317
             go_wp2
             repeat (go_quiet (fail); try go_wp2)
             go_roundg k2
             case measure => have := HK1.out; have := HK2.out; omega
             case rel => exact ⟨(true), (wrap64 (x6_2 + 1)), (sqD), (sqD), H', ⟨by have := HK1.out; have := HK2.out; omega⟩, ⟨sqR HO_3.out⟩, ⟨sqB⟩⟩
            ·rw [if_neg c12] at H
             have c12b0 : ((rd l0 x6_2) == (rd l0 x4_1)) = false := beq_eq_false_iff_ne.mpr c12
             have c12b1 : ((rd l0 x6_2) != (rd l0 x4_1)) = true := bne_iff_ne.mpr c12
             have H' := Aside0.mk H
             clear H
             have p316 : 0 ≤ (x6_2 : Int) := of_decide_eq_true sqA
             have q316 : x6_2 < (l0.length : Int) := of_decide_eq_true sqA
             obtain ⟨ad316, e316, hx316_0⟩ := Kd.zT HR0.out x6_2 p316 q316
             cases e316
             replace hx316_0 := (HB.out.cell (World.block_lt_of_cell? w _ hx316_0)).trans hx316_0
             replace p316 := eq_true p316
             replace q316 := eq_true q316
             have p317 : 0 ≤ (x4_1 : Int) := of_decide_eq_true sqA
             have q317 : x4_1 < (l0.length : Int) := of_decide_eq_true sqA
             obtain ⟨ad317, e317, hx317_0⟩ := Kd.zT HR0.out x4_1 p317 q317
             obtain rfl : ad316 = ad317 := (by injection e317)
             replace hx317_0 := (HB.out.cell (World.block_lt_of_cell? w _ hx317_0)).trans hx317_0
             replace p317 := eq_true p317
             replace q317 := eq_true q317
             have p318 : 0 ≤ (x6_2 : Int) := of_decide_eq_true sqA
             have q318 : x6_2 < (l0.length : Int) := of_decide_eq_true sqA
             obtain ⟨ad318, e318, hx318_0⟩ := Kd.zT HR0.out x6_2 p318 q318
             obtain rfl : ad316 = ad318 := (by injection e318)
             replace hx318_0 := (HB.out.cell (World.block_lt_of_cell? w _ hx318_0)).trans hx318_0
             replace p318 := eq_true p318
             replace q318 := eq_true q318
             have p319 : 0 ≤ (x4_1 : Int) := of_decide_eq_true sqA
             have q319 : x4_1 < (l0.length : Int) := of_decide_eq_true sqA
             obtain ⟨ad319, e319, hx319_0⟩ := Kd.zT HR0.out x4_1 p319 q319
             obtain rfl : ad316 = ad319 := (by injection e319)
             replace hx319_0 := (HB.out.cell (World.block_lt_of_cell? w _ hx319_0)).trans hx319_0
             replace p319 := eq_true p319
             replace q319 := eq_true q319
             have p320 : 0 ≤ (x4_1 : Int) := of_decide_eq_true sqA
             have q320 : x4_1 < (l0.length : Int) := of_decide_eq_true sqA
             obtain ⟨ad320, e320, hx320_0⟩ := Kd.zT HR0.out x4_1 p320 q320
             obtain rfl : ad316 = ad320 := (by injection e320)
             replace hx320_0 := (HB.out.cell (World.block_lt_of_cell? w _ hx320_0)).trans hx320_0
             replace p320 := eq_true p320
             replace q320 := eq_true q320
             go_wp2
             repeat (go_quiet (fail); try go_wp2)
             go_roundg k2
             case measure => have := HK1.out; have := HK2.out; omega
             case rel => exact ⟨(((Go.bits .and .i64 (rd l0 x6_2) (rd l0 x4_1)) != (rd l0 x4_1))), (wrap64 (x6_2 + 1)), (sqD), (sqD), H', ⟨by have := HK1.out; have := HK2.out; omega⟩, ⟨sqR HO_3.out⟩, ⟨sqB⟩⟩
           ·rw [if_neg c11] at H
            exact absurd H (by simp)
          ·rw [if_neg c10] at H
           exact absurd H (by simp)
         ·rw [if_neg c9] at H
          exact absurd H (by simp)
        ·replace c8 := Bool.eq_false_iff.mpr c8
         subst c8
         have H1 : (zN.l1 k2 l0 x3_1 x4_1 false (wrap64 (x6_2 + 1))) = some r := by rw [if_neg (show ¬ (false = true) by decide)] at H; exact H
         clear H
         have H := H1
         clear H1
         have H' := Aside0.mk H
         clear H
         go_wp2
         repeat (go_quiet (fail); try go_wp2)
         go_roundg k2
         case measure => have := HK1.out; have := HK2.out; omega
         case rel => exact ⟨(false), (wrap64 (x6_2 + 1)), (sqD), (sqD), H', ⟨by have := HK1.out; have := HK2.out; omega⟩, ⟨sqR HO_3.out⟩, ⟨sqB⟩⟩
       ·rw [if_neg c7] at H
        have c7b0 : decide (x6_2 < (l0.length : Int)) = false := decide_eq_false c7
        clear c7
        by_cases c13 : x5_2 = true
        ·subst c13
         have H1 : (if 0 ≤ x4_1 then (if x4_1 < (l0.length : Int) then (if x3_1.length < 17592186044416 then (zN.l0 k2 l0 (x3_1 ++ [rd l0 x4_1]) (wrap64 (x4_1 + 1))) else (none)) else (none)) else (none)) = some r := by rw [if_pos rfl] at H; exact H
         clear H
         have H := H1
         clear H1
         by_cases c14 : 0 ≤ x4_1
         ·rw [if_pos c14] at H
          have c14b0 : decide (0 ≤ x4_1) = true := decide_eq_true c14
          clear c14
          by_cases c15 : x4_1 < (l0.length : Int)
          ·rw [if_pos c15] at H
           have c15b0 : decide (x4_1 < (l0.length : Int)) = true := decide_eq_true c15
           clear c15
           by_cases c16 : x3_1.length < 17592186044416
           ·rw [if_pos c16] at H
            have LMc16 := Aside0.mk c16
            clear c16
            obtain ⟨y322, hy322⟩ : ∃ y_ : List Int, y_ = (x3_1 ++ [rd l0 x4_1]) := ⟨_, rfl⟩
            replace H : (zN.l0 k2 l0 y322 (wrap64 (x4_1 + 1))) = some r := by first | (rw [hy322]; with_reducible exact H) | (have H2_ := (Option.bind_some _ _).symm.trans H; rw [hy322]; with_reducible exact H2_) | (have H2_ := (Option.bind_some _ _).symm.trans H; with_reducible exact H2_) | with_reducible exact H | (rw [hy322]; exact H) | exact H
            have Ny322 := Aside0.mk hy322
            clear hy322
            have H' := Aside0.mk H
            clear H
            have p321 : 0 ≤ (x4_1 : Int) := of_decide_eq_true sqA
            have q321 : x4_1 < (l0.length : Int) := of_decide_eq_true sqA
            obtain ⟨ad321, e321, hx321_0⟩ := Kd.zT HR0.out x4_1 p321 q321
            cases e321
            replace hx321_0 := (HB.out.cell (World.block_lt_of_cell? w _ hx321_0)).trans hx321_0
            replace p321 := eq_true p321
            replace q321 := eq_true q321
            go_wp2_with (first | ((with_reducible refine qN (b := .append) (xs := #[.tmp 53, .tmp 58]) rfl ?_); at_builtin; refine Kd.jA (Kd.int .i64) (w0 := w) w.heap.size rfl (.tmp 53) (.tmp 58) 22 3 (.int .i64 0) 8 rfl Try.underlying22 jO rfl (by decide) (by omega) u3 x3_1 (rd l0 x4_1) [.int .i64 (rd l0 x4_1)] (fun _ => True) (fun _ => False) rfl rfl ?aP (fun _ hk => hk.elim) ?aF ?aO ?aB ?aS ?aL ?_; (case aP => exact rfl); (case aB => exact sqB); (case aF => exact (fun _ _ => trivial)); (case aO => exact (sqR HO_3.out)); (case aS => exact (zg sqB)); (case aL => have := LMc16.out; omega); intro v323 w17 ho hb hg hat; rw [← Ny322.out] at ho; have n0_ := Aside0.mk (hb); have n1_ := Aside0.mk (ho); clear HB; clear HO_3; have HB := n0_; have HO324 := n1_; clear n0_ n1_; clear ho hb hg hat))
            repeat (go_quiet (first | ((with_reducible refine qN (b := .append) (xs := #[.tmp 53, .tmp 58]) rfl ?_); at_builtin; refine Kd.jA (Kd.int .i64) (w0 := w) w.heap.size rfl (.tmp 53) (.tmp 58) 22 3 (.int .i64 0) 8 rfl Try.underlying22 jO rfl (by decide) (by omega) u3 x3_1 (rd l0 x4_1) [.int .i64 (rd l0 x4_1)] (fun _ => True) (fun _ => False) rfl rfl ?aP (fun _ hk => hk.elim) ?aF ?aO ?aB ?aS ?aL ?_; (case aP => exact rfl); (case aB => exact sqB); (case aF => exact (fun _ _ => trivial)); (case aO => exact (sqR HO_3.out)); (case aS => exact (zg sqB)); (case aL => have := LMc16.out; omega); intro v323 w17 ho hb hg hat; rw [← Ny322.out] at ho; have n0_ := Aside0.mk (hb); have n1_ := Aside0.mk (ho); clear HB; clear HO_3; have HB := n0_; have HO324 := n1_; clear n0_ n1_; clear ho hb hg hat)); try go_wp2_with (first | ((with_reducible refine qN (b := .append) (xs := #[.tmp 53, .tmp 58]) rfl ?_); at_builtin; refine Kd.jA (Kd.int .i64) (w0 := w) w.heap.size rfl (.tmp 53) (.tmp 58) 22 3 (.int .i64 0) 8 rfl Try.underlying22 jO rfl (by decide) (by omega) u3 x3_1 (rd l0 x4_1) [.int .i64 (rd l0 x4_1)] (fun _ => True) (fun _ => False) rfl rfl ?aP (fun _ hk => hk.elim) ?aF ?aO ?aB ?aS ?aL ?_; (case aP => exact rfl); (case aB => exact sqB); (case aF => exact (fun _ _ => trivial)); (case aO => exact (sqR HO_3.out)); (case aS => exact (zg sqB)); (case aL => have := LMc16.out; omega); intro v323 w17 ho hb hg hat; rw [← Ny322.out] at ho; have n0_ := Aside0.mk (hb); have n1_ := Aside0.mk (ho); clear HB; clear HO_3; have HB := n0_; have HO324 := n1_; clear n0_ n1_; clear ho hb hg hat)))
            go_roundg k2
            case measure => have := HK1.out; have := HK2.out; omega
            case rel => exact ⟨(y322), (wrap64 (x4_1 + 1)), (sqD), H', ⟨by have := HK1.out; have := HK2.out; omega⟩, ⟨sqR HO324.out⟩, ⟨sqB⟩⟩
           ·rw [if_neg c16] at H
            exact absurd H (by simp)
          ·rw [if_neg c15] at H
           exact absurd H (by simp)
         ·rw [if_neg c14] at H
          exact absurd H (by simp)
        ·replace c13 := Bool.eq_false_iff.mpr c13
         subst c13
         have H1 : (zN.l0 k2 l0 x3_1 (wrap64 (x4_1 + 1))) = some r := by rw [if_neg (show ¬ (false = true) by decide)] at H; exact H
         clear H
         have H := H1
         clear H1
         have H' := Aside0.mk H
         clear H
         go_wp2
         repeat (go_quiet (fail); try go_wp2)
         go_roundg k2
         case measure => have := HK1.out; have := HK2.out; omega
         case rel => exact ⟨(x3_1), (wrap64 (x4_1 + 1)), (sqD), H', ⟨by have := HK1.out; have := HK2.out; omega⟩, ⟨sqR HO_3.out⟩, ⟨sqB⟩⟩
    ·rw [if_neg c6] at H
     have c6b0 : decide (x4_1 < (l0.length : Int)) = false := decide_eq_false c6
     clear c6
     replace H := Option.bind_eq_some_iff.mp H
     obtain ⟨t313, A180, H⟩ := H
     replace H : (some t313) = some r := H
     have A18 := Aside0.mk A180
     clear A180
     obtain rfl := Option.some.inj H
     obtain ⟨Ao19, co19, eo19⟩ := Kd.zR HO_3.out
     subst eo19
     go_wp2_with (first | (go_at_call 41; (try simp only [zj, zo]); (with_reducible refine (zk.calls k1 _ _ x3_1 t313 _ ?side1 ?side2 A18.out).mono ?_); (case side1 => exact sqC (Kd.zh HO_3.out).2.2); (case side2 => exact (Kd.zh HO_3.out).2.1); rintro e w20 ⟨v314, rfl, ho0, hb⟩; have n0_ := Aside0.mk (Kd.zU (sqR HO_3.out) (Kd.qt ho0) hb); have n1_ := Aside0.mk (Kd.zD (Kd.qu ho0 (Kd.jd (sqR HO_3.out))) (zg sqB)); have n2_ := Aside0.mk (zc sqB hb); clear HO_3; clear HB; have HO_3 := n0_; have HO315 := n1_; have HB := n2_; clear n0_ n1_ n2_; (try clear hb); (try clear hb2); (try clear hk); (try clear hi); (try clear ho0)))
     repeat (go_quiet (first | (go_at_call 41; (try simp only [zj, zo]); (with_reducible refine (zk.calls k1 _ _ x3_1 t313 _ ?side1 ?side2 A18.out).mono ?_); (case side1 => exact sqC (Kd.zh HO_3.out).2.2); (case side2 => exact (Kd.zh HO_3.out).2.1); rintro e w20 ⟨v314, rfl, ho0, hb⟩; have n0_ := Aside0.mk (Kd.zU (sqR HO_3.out) (Kd.qt ho0) hb); have n1_ := Aside0.mk (Kd.zD (Kd.qu ho0 (Kd.jd (sqR HO_3.out))) (zg sqB)); have n2_ := Aside0.mk (zc sqB hb); clear HO_3; clear HB; have HO_3 := n0_; have HO315 := n1_; have HB := n2_; clear n0_ n1_ n2_; (try clear hb); (try clear hb2); (try clear hk); (try clear hi); (try clear ho0))); try go_wp2_with (first | (go_at_call 41; (try simp only [zj, zo]); (with_reducible refine (zk.calls k1 _ _ x3_1 t313 _ ?side1 ?side2 A18.out).mono ?_); (case side1 => exact sqC (Kd.zh HO_3.out).2.2); (case side2 => exact (Kd.zh HO_3.out).2.1); rintro e w20 ⟨v314, rfl, ho0, hb⟩; have n0_ := Aside0.mk (Kd.zU (sqR HO_3.out) (Kd.qt ho0) hb); have n1_ := Aside0.mk (Kd.zD (Kd.qu ho0 (Kd.jd (sqR HO_3.out))) (zg sqB)); have n2_ := Aside0.mk (zc sqB hb); clear HO_3; clear HB; have HO_3 := n0_; have HO315 := n1_; have HB := n2_; clear n0_ n1_ n2_; (try clear hb); (try clear hb2); (try clear hk); (try clear hi); (try clear ho0))))
     go_ret
     exact ⟨_, sqE, by refine sqR ?_; exact Kd.zu HO315.out (fun _ hk => trivial), sqB⟩
 ·replace c3 := Bool.eq_false_iff.mpr c3
  subst c3
  have H1 : (some y309) = some r := by rw [if_neg (show ¬ (false = true) by decide)] at H; exact H
  clear H
  have H := H1
  clear H1
  obtain rfl := Option.some.inj H
  go_enter Try.func49, Try.ntmps49
  go_wp2_with (first | ((with_reducible refine zi (N := 7) rfl ?_); refine Kd.jx (Kd.int .i64) _ 3 ?hg (N := 7) ?hd (xs := ([] : List Int)) (inner := []) (ok := fun _ => True) (okp := fun _ => True) ?hr ?hp (fun _ hk => hk) trivial (Below.refl _ _) (Nat.le_refl _) (by simp) ?_; (case hd => rfl); (case hg => rfl); (case hr => exact sqG); (case hp => exact (qT.none _ _)); intro v310 w21 ho22 hb hg_ hnew_; clear hg_ hnew_; (first | rw [← Ny309.out] at ho22 | (simp only [Int.reduceToNat] at ho22; rw [← Ny309.out] at ho22)); have n0_ := Aside0.mk (Kd.zD ho22 (zg sqB)); have n1_ := Aside0.mk (zc sqB hb); clear HB; have HO311 := n0_; have HB := n1_; clear n0_ n1_; clear hb ho22) | (go_at_call 87; (try simp only [zj, zo]); (with_reducible refine (z6.calls k 8 _ _ l0 false _ ?side1 ?side2 A2.out).mono ?_); (case side1 => exact sqC (Kd.zp HR0.out HB.out)); (case side2 => exact HC0.out); rintro e w' ⟨rfl, ⟨nd, rfl⟩⟩; (try first | exact ⟨rfl, _, World.drewN_drewN _ _ _⟩ | exact ⟨rfl, _, Eq.trans (World.drewN_drewN _ _ _) (congrArg (World.drewN _) (Nat.add_assoc _ _ _))⟩)))
  repeat (go_quiet (first | ((with_reducible refine zi (N := 7) rfl ?_); refine Kd.jx (Kd.int .i64) _ 3 ?hg (N := 7) ?hd (xs := ([] : List Int)) (inner := []) (ok := fun _ => True) (okp := fun _ => True) ?hr ?hp (fun _ hk => hk) trivial (Below.refl _ _) (Nat.le_refl _) (by simp) ?_; (case hd => rfl); (case hg => rfl); (case hr => exact sqG); (case hp => exact (qT.none _ _)); intro v310 w21 ho22 hb hg_ hnew_; clear hg_ hnew_; (first | rw [← Ny309.out] at ho22 | (simp only [Int.reduceToNat] at ho22; rw [← Ny309.out] at ho22)); have n0_ := Aside0.mk (Kd.zD ho22 (zg sqB)); have n1_ := Aside0.mk (zc sqB hb); clear HB; have HO311 := n0_; have HB := n1_; clear n0_ n1_; clear hb ho22) | (go_at_call 87; (try simp only [zj, zo]); (with_reducible refine (z6.calls k 8 _ _ l0 false _ ?side1 ?side2 A2.out).mono ?_); (case side1 => exact sqC (Kd.zp HR0.out HB.out)); (case side2 => exact HC0.out); rintro e w' ⟨rfl, ⟨nd, rfl⟩⟩; (try first | exact ⟨rfl, _, World.drewN_drewN _ _ _⟩ | exact ⟨rfl, _, Eq.trans (World.drewN_drewN _ _ _) (congrArg (World.drewN _) (Nat.add_assoc _ _ _))⟩))); try go_wp2_with (first | ((with_reducible refine zi (N := 7) rfl ?_); refine Kd.jx (Kd.int .i64) _ 3 ?hg (N := 7) ?hd (xs := ([] : List Int)) (inner := []) (ok := fun _ => True) (okp := fun _ => True) ?hr ?hp (fun _ hk => hk) trivial (Below.refl _ _) (Nat.le_refl _) (by simp) ?_; (case hd => rfl); (case hg => rfl); (case hr => exact sqG); (case hp => exact (qT.none _ _)); intro v310 w21 ho22 hb hg_ hnew_; clear hg_ hnew_; (first | rw [← Ny309.out] at ho22 | (simp only [Int.reduceToNat] at ho22; rw [← Ny309.out] at ho22)); have n0_ := Aside0.mk (Kd.zD ho22 (zg sqB)); have n1_ := Aside0.mk (zc sqB hb); clear HB; have HO311 := n0_; have HB := n1_; clear n0_ n1_; clear hb ho22) | (go_at_call 87; (try simp only [zj, zo]); (with_reducible refine (z6.calls k 8 _ _ l0 false _ ?side1 ?side2 A2.out).mono ?_); (case side1 => exact sqC (Kd.zp HR0.out HB.out)); (case side2 => exact HC0.out); rintro e w' ⟨rfl, ⟨nd, rfl⟩⟩; (try first | exact ⟨rfl, _, World.drewN_drewN _ _ _⟩ | exact ⟨rfl, _, Eq.trans (World.drewN_drewN _ _ _) (congrArg (World.drewN _) (Nat.add_assoc _ _ _))⟩))))
  go_ret
  exact ⟨_, sqE, sqR HO311.out, sqB⟩

end Go.Proofs.Yteggmbhcnhbamaa.F
end
section
namespace Go.Proofs.Yteggmbhcnhbamaa.F
open Go.RowKit Go.Proofs.YteggmbhcnhbamaaW.PrintWords Go.Proofs.YteggmbhcnhbamaaW.PrintLast Go.Proofs.YteggmbhcnhbamaaW.PrintMore
attribute [local go_sem] qJ qM q2 q4 qy qx qL qK   -- for this text's walks alone
set_option linter.unusedVariables false
set_option linter.unusedSimpArgs false

def zH.l0 : Nat → List Int → Int → Int → List Int → Option (List Int)
 | 0, _, _, _, _ => none
 | k + 1, x3, x4, x328000, x328001 => (qB.f x328000).bind fun t332 => (if x4 ≤ t332 then ((qf.f k x328000 x328001 x4).bind fun t333 => ((zY.f k x4).bind fun t334 => (if t333 = t334 then (if x3.length < 17592186044416 then (zH.l0 k (x3 ++ [x4]) (wrap64 (x4 + 1)) x328000 x328001) else (none)) else (zH.l0 k x3 (wrap64 (x4 + 1)) x328000 x328001)))) else (some x3))
def zH.f (k : Nat) (a0_0 : Int) (l0_1 : List Int) : Option (List Int) := (some (([] : List Int) : List Int)).bind fun y328 => ((zA.f k a0_0 l0_1).bind fun t331 => (if t331 = true then (zH.l0 k y328 0 a0_0 l0_1) else (some y328)))
theorem zH.calls (k : Nat) (a0_0 : Int) (A0_1 : Option Addr) (c0_1 : Nat) (l0_1 : List Int) (r : List Int) (w : World) (hr0_1 : Kd.C (Kd.int .i64) w A0_1 l0_1.length l0_1) (hc0_1 : l0_1.length ≤ c0_1) (h : zH.f k a0_0 l0_1 = some r) :
  Calls Try.prog 51 #[.agg #[.int .i64 a0_0, .slice A0_1 l0_1.length c0_1]] w fun e w' => ∃ v0_ : Value, e = .returned (v0_) ∧ Kd.R (Kd.int .i64) 3 w' w.heap.size (fun _ => True) v0_ r ∧ Below w.heap.size w w' := by
 have hu27 := Try.underlying27
 have HR0_1 := Aside0.mk hr0_1
 have HC0_1 := Aside0.mk hc0_1
 clear hr0_1 hc0_1
 have HB := Aside0.mk (Below.refl w.heap.size w)
 have H : ((some (([] : List Int) : List Int)).bind fun y328 => ((zA.f k a0_0 l0_1).bind fun t331 => (if t331 = true then (zH.l0 k y328 0 a0_0 l0_1) else (some y328)))) = some r := h
 clear h
 obtain ⟨y328, hy328⟩ : ∃ y_ : List Int, y_ = (([] : List Int)) := ⟨_, rfl⟩
 replace H : ((zA.f k a0_0 l0_1).bind fun t331 => (if t331 = true then (zH.l0 k y328 0 a0_0 l0_1) else (some y328))) = some r := by first | (rw [hy328]; with_reducible exact H) | (have H2_ := (Option.bind_some _ _).symm.trans H; rw [hy328]; with_reducible exact H2_) | (have H2_ := (Option.bind_some _ _).symm.trans H; with_reducible exact H2_) | with_reducible exact H | (rw [hy328]; exact H) | exact H
 have Ny328 := Aside0.mk hy328
 clear hy328
 replace H := Option.bind_eq_some_iff.mp H
 obtain ⟨t331, A20, H⟩ := H
 replace H : (if t331 = true then (zH.l0 k y328 0 a0_0 l0_1) else (some y328)) = some r := H
 have A2 := Aside0.mk A20
 clear A20
 by_cases c3 : t331 = true
 ·subst c3
  have H1 : (zH.l0 k y328 0 a0_0 l0_1) = some r := by rw [if_pos rfl] at H; exact H
  clear H
  have H := H1
  clear H1
  have H' := Aside0.mk H
  clear H
  go_enter Try.func51, Try.ntmps51
  go_wp2_with (first | ((with_reducible refine zi (N := 1) rfl ?_); refine zl ?hg (N := 1) ?hd (cs := #[.int .i64 a0_0, .slice A0_1 l0_1.length c0_1]) (t := 27) ?hr ?_; (case hd => rfl); (case hg => rfl); (case hr => exact sqG); intro gb327 hg w4 hbox hb; have n0_ := Aside0.mk (zc sqB hb); have n1_ := Aside0.mk (hbox); have n2_ := Aside0.mk ((sqS hg : w.heap.size ≤ gb327)); have n3_ := Aside0.mk ((sqS hg : w.heap.size ≤ gb327)); clear HB; have HB := n0_; have BK327 := n1_; have GW327 := n2_; have GE327 := n3_; clear n0_ n1_ n2_ n3_; clear hb hbox hg) | ((with_reducible refine zi (N := 5) rfl ?_); refine Kd.jx (Kd.int .i64) _ 3 ?hg (N := 5) ?hd (xs := ([] : List Int)) (inner := []) (ok := fun _ => True) (okp := fun _ => True) ?hr ?hp (fun _ hk => hk) trivial (Below.refl _ _) (Nat.le_refl _) (by simp) ?_; (case hd => rfl); (case hg => rfl); (case hr => exact sqG); (case hp => exact (qT.none _ _)); intro v329 w5 ho6 hb hg_ hnew_; clear hg_ hnew_; (first | rw [← Ny328.out] at ho6 | (simp only [Int.reduceToNat] at ho6; rw [← Ny328.out] at ho6)); have n0_ := Aside0.mk (Kd.zD ho6 (zg sqB)); have n1_ := Aside0.mk (ze (g := gb327) (o := .cells #[.int .i64 a0_0, .slice A0_1 l0_1.length c0_1] 27 (0, 0)) (sqK BK327.out) hb); have n2_ := Aside0.mk (zc sqB hb); clear BK327; clear HB; have HO330 := n0_; have BK327 := n1_; have HB := n2_; clear n0_ n1_ n2_; clear hb ho6; have hcz7_0 : w5.cell? ⟨gb327, 0, none⟩ = some (.int .i64 a0_0) := (zb BK327.out 0).trans rfl; have hcz7_1 : w5.cell? ⟨gb327, 1, none⟩ = some (.slice A0_1 l0_1.length c0_1) := (zb BK327.out 1).trans rfl; have hfz7_0 := za BK327.out 0; have hfz7_1 := za BK327.out 1) | ((with_reducible refine zd (f := 37) rfl ?_); refine zn (some 7) rfl rfl Try.func37 (by kernel_rfl) rfl #[.agg #[.int .i64 a0_0, .slice A0_1 l0_1.length c0_1]] rfl sqM ?_; (with_reducible refine (zA.calls k a0_0 _ _ l0_1 true _ ?side1 ?side2 A2.out).mono ?_); (case side1 => exact sqC (Kd.zp HR0_1.out HB.out)); (case side2 => exact HC0_1.out); rintro e w8 ⟨rfl, hb⟩; refine ⟨_, rfl, ?_⟩; have n0_ := Aside0.mk (Kd.zz (sqR HO330.out) hb); have n1_ := Aside0.mk (ze (g := gb327) (o := .cells #[.int .i64 a0_0, .slice A0_1 l0_1.length c0_1] 27 (0, 0)) (sqK BK327.out) hb); have n2_ := Aside0.mk (zc sqB hb); clear HO330; clear BK327; clear HB; have HO330 := n0_; have BK327 := n1_; have HB := n2_; clear n0_ n1_ n2_; (try clear hb); (try clear hb2); (try clear hk); (try clear hi)))
  go_loopg [3, 4] k (fun kq v3 v4 w' => ∃ (x3_1 : List Int) (x4_1 : Int), v4 = .int .i64 x4_1 ∧ Aside0 (zH.l0 kq x3_1 x4_1 a0_0 l0_1 = some r) ∧ Aside0 (kq ≤ k) ∧ Aside0 (Kd.R (Kd.int .i64) 3 w' w.heap.size (fun _ => True) v3 x3_1) ∧ Aside0 (w'.heap[gb327]? = some (.cells #[.int .i64 a0_0, (.slice A0_1 l0_1.length c0_1)] 27 (0, 0))) ∧ Aside0 (Below w.heap.size w w'))
  case atStart => exact ⟨(y328), (0), (sqD), H', ⟨Nat.le_refl _⟩, ⟨sqR HO330.out⟩, ⟨sqK BK327.out⟩, ⟨sqB⟩⟩
  case round =>
   clear H'
   try clear p2
   try clear c3
   try clear c5
   try clear hcz7_0
   try clear hcz7_1
   try clear hfz7_0
   try clear hfz7_1
   obtain ⟨x3_1, x4_1, rfl, HA, HK1, HO_3, BK327, HB⟩ := hrel
   cases gk with
   | zero => exact absurd HA.out (by simp [zH.l0])
   | succ k1 =>
    have H := HA.out
    clear HA
    simp only [zH.l0] at H
    replace H := Option.bind_eq_some_iff.mp H
    obtain ⟨t332, A90, H⟩ := H
    replace H : (if x4_1 ≤ t332 then ((qf.f k1 a0_0 l0_1 x4_1).bind fun t333 => ((zY.f k1 x4_1).bind fun t334 => (if t333 = t334 then (if x3_1.length < 17592186044416 then (zH.l0 k1 (x3_1 ++ [x4_1]) (wrap64 (x4_1 + 1)) a0_0 l0_1) else (none)) else (zH.l0 k1 x3_1 (wrap64 (x4_1 + 1)) a0_0 l0_1)))) else (some x3_1)) = some r := H
    have A9 := Aside0.mk A90
    clear A90
    by_cases c10 : x4_1 ≤ t332
    ·rw [if_pos c10] at H
     have c10b0 : decide (x4_1 ≤ t332) = true := decide_eq_true c10
     clear c10
     replace H := Option.bind_eq_some_iff.mp H
     obtain ⟨t333, A110, H⟩ := H
     replace H : ((zY.f k1 x4_1).bind fun t334 => (if t333 = t334 then (if x3_1.length < 17592186044416 then (zH.l0 k1 (x3_1 ++ [x4_1]) (wrap64 (x4_1 + 1)) a0_0 l0_1) else (none)) else (zH.l0 k1 x3_1 (wrap64 (x4_1 + 1)) a0_0 l0_1))) = some r := H
     have A11 := Aside0.mk A110
     clear A110
     replace H := Option.bind_eq_some_iff.mp H
     obtain ⟨t334, A120, H⟩ := H
     replace H : (if t333 = t334 then (if x3_1.length < 17592186044416 then (zH.l0 k1 (x3_1 ++ [x4_1]) (wrap64 (x4_1 + 1)) a0_0 l0_1) else (none)) else (zH.l0 k1 x3_1 (wrap64 (x4_1 + 1)) a0_0 l0_1)) = some r := H
     have A12 := Aside0.mk A120
     clear A120
     by_cases c13 : t333 = t334
     ·rw [if_pos c13] at H
      have c13b0 : (t333 == t334) = true := beq_iff_eq.mpr c13
      have c13b1 : (t333 != t334) = false := bne_eq_false_iff_eq.mpr c13
      clear c13
      by_cases c14 : x3_1.length < 17592186044416
      ·rw [if_pos c14] at H
       have LMc14 := Aside0.mk c14
       clear c14
       obtain ⟨y335, hy335⟩ : ∃ y_ : List Int, y_ = (x3_1 ++ [x4_1]) := ⟨_, rfl⟩
       replace H : (zH.l0 k1 y335 (wrap64 (x4_1 + 1)) a0_0 l0_1) = some r := by first | (rw [hy335]; with_reducible exact H) | (have H2_ := (Option.bind_some _ _).symm.trans H; rw [hy335]; with_reducible exact H2_) | (have H2_ := (Option.bind_some _ _).symm.trans H; with_reducible exact H2_) | with_reducible exact H | (rw [hy335]; exact H) | exact H
       have Ny335 := Aside0.mk hy335
       clear hy335
       have H' := Aside0.mk H
       clear H
       have hcz15_0 : wr.cell? ⟨gb327, 0, none⟩ = some (.int .i64 a0_0) := (zb BK327.out 0).trans rfl
       have hcz15_1 : wr.cell? ⟨gb327, 1, none⟩ = some (.slice A0_1 l0_1.length c0_1) := (zb BK327.out 1).trans rfl
       have hfz15_0 := za BK327.out 0
       have hfz15_1 := za BK327.out 1
       go_wp2_with (first | ((with_reducible refine zd (f := 63) rfl ?_); refine zn (some 13) rfl rfl Try.func63 (by kernel_rfl) rfl #[.int .i64 a0_0] rfl sqM ?_; (with_reducible refine (qB.calls a0_0 t332 _ A9.out).mono ?_); rintro e w' ⟨rfl, ⟨nd, rfl⟩⟩; refine ⟨_, rfl, ?_⟩) | ((with_reducible refine zd (f := 76) rfl ?_); refine zn (some 19) rfl rfl Try.func76 (by kernel_rfl) rfl #[.agg #[.int .i64 a0_0, .slice A0_1 l0_1.length c0_1], .int .i64 x4_1] rfl sqM ?_; (with_reducible refine (qf.calls k1 a0_0 _ _ l0_1 x4_1 t333 _ ?side1 ?side2 A11.out).mono ?_); (case side1 => exact sqC (Kd.zp HR0_1.out sqB)); (case side2 => exact HC0_1.out); rintro e w16 ⟨rfl, hb⟩; refine ⟨_, rfl, ?_⟩; have n0_ := Aside0.mk (Kd.zz (sqR HO_3.out) hb); have n1_ := Aside0.mk (ze (g := gb327) (o := .cells #[.int .i64 a0_0, .slice A0_1 l0_1.length c0_1] 27 (0, 0)) (sqK BK327.out) hb); have n2_ := Aside0.mk (zc sqB hb); clear HO_3; clear BK327; clear HB; have HO_3 := n0_; have BK327 := n1_; have HB := n2_; clear n0_ n1_ n2_; (try clear hb); (try clear hb2); (try clear hk); (try clear hi)) | ((with_reducible refine zd (f := 88) rfl ?_); refine zn (some 21) rfl rfl Try.func88 (by kernel_rfl) rfl #[.int .i64 x4_1] rfl sqM ?_; (with_reducible refine (zY.calls k1 x4_1 t334 _ A12.out).mono ?_); rintro e w' ⟨rfl, ⟨nd, rfl⟩⟩; refine ⟨_, rfl, ?_⟩) | ((with_reducible refine qN (b := .append) (xs := #[.tmp 23, .tmp 25]) rfl ?_); at_builtin; refine Kd.jA (Kd.int .i64) (w0 := w) w.heap.size rfl (.tmp 23) (.tmp 25) 22 3 (.int .i64 0) 8 rfl Try.underlying22 jO rfl (by decide) (by omega) u3 x3_1 x4_1 [.int .i64 x4_1] (fun _ => True) (fun _ => False) rfl rfl ?aP (fun _ hk => hk.elim) ?aF ?aO ?aB ?aS ?aL ?_; (case aP => exact rfl); (case aB => exact sqB); (case aF => exact (fun _ _ => trivial)); (case aO => exact (sqR HO_3.out)); (case aS => exact (zg sqB)); (case aL => have := LMc14.out; omega); intro v336 w17 ho hb hg hat; rw [← Ny335.out] at ho; have n0_ := Aside0.mk (yn (g := gb327) (o := .cells #[.int .i64 a0_0, .slice A0_1 l0_1.length c0_1] 27 (0, 0)) (sqK BK327.out) hg (Kd.Jd HO_3.out BK327.out (by decide))); have n1_ := Aside0.mk (hb); have n2_ := Aside0.mk (ho); clear BK327; clear HB; clear HO_3; have BK327 := n0_; have HB := n1_; have HO337 := n2_; clear n0_ n1_ n2_; clear ho hb hg hat))
       go_roundg k1
       case measure => have := HK1.out; omega
       case rel => exact ⟨(y335), (wrap64 (x4_1 + 1)), (sqD), H', ⟨by have := HK1.out; omega⟩, ⟨sqR HO337.out⟩, ⟨sqK BK327.out⟩, ⟨sqB⟩⟩
      ·rw [if_neg c14] at H
       exact absurd H (by simp)
     ·rw [if_neg c13] at H
      have c13b0 : (t333 == t334) = false := beq_eq_false_iff_ne.mpr c13
      have c13b1 : (t333 != t334) = true := bne_iff_ne.mpr c13
      have H' := Aside0.mk H
      clear H
      have hcz18_0 : wr.cell? ⟨gb327, 0, none⟩ = some (.int .i64 a0_0) := (zb BK327.out 0).trans rfl
      have hcz18_1 : wr.cell? ⟨gb327, 1, none⟩ = some (.slice A0_1 l0_1.length c0_1) := (zb BK327.out 1).trans rfl
      have hfz18_0 := za BK327.out 0
      have hfz18_1 := za BK327.out 1
      go_wp2_with (first | ((with_reducible refine zd (f := 63) rfl ?_); refine zn (some 13) rfl rfl Try.func63 (by kernel_rfl) rfl #[.int .i64 a0_0] rfl sqM ?_; (with_reducible refine (qB.calls a0_0 t332 _ A9.out).mono ?_); rintro e w' ⟨rfl, ⟨nd, rfl⟩⟩; refine ⟨_, rfl, ?_⟩) | ((with_reducible refine zd (f := 76) rfl ?_); refine zn (some 19) rfl rfl Try.func76 (by kernel_rfl) rfl #[.agg #[.int .i64 a0_0, .slice A0_1 l0_1.length c0_1], .int .i64 x4_1] rfl sqM ?_; (with_reducible refine (qf.calls k1 a0_0 _ _ l0_1 x4_1 t333 _ ?side1 ?side2 A11.out).mono ?_); (case side1 => exact sqC (Kd.zp HR0_1.out sqB)); (case side2 => exact HC0_1.out); rintro e w19 ⟨rfl, hb⟩; refine ⟨_, rfl, ?_⟩; have n0_ := Aside0.mk (Kd.zz (sqR HO_3.out) hb); have n1_ := Aside0.mk (ze (g := gb327) (o := .cells #[.int .i64 a0_0, .slice A0_1 l0_1.length c0_1] 27 (0, 0)) (sqK BK327.out) hb); have n2_ := Aside0.mk (zc sqB hb); clear HO_3; clear BK327; clear HB; have HO_3 := n0_; have BK327 := n1_; have HB := n2_; clear n0_ n1_ n2_; (try clear hb); (try clear hb2); (try clear hk); (try clear hi)) | ((with_reducible refine zd (f := 88) rfl ?_); refine zn (some 21) rfl rfl Try.func88 (by kernel_rfl) rfl #[.int .i64 x4_1] rfl sqM ?_; (with_reducible refine (zY.calls k1 x4_1 t334 _ A12.out).mono ?_); rintro e w' ⟨rfl, ⟨nd, rfl⟩⟩; refine ⟨_, rfl, ?_⟩))
      go_roundg k1
      case measure => have := HK1.out; omega
      case rel => exact ⟨(x3_1), (wrap64 (x4_1 + 1)), (sqD), H', ⟨by have := HK1.out; omega⟩, ⟨sqR HO_3.out⟩, ⟨sqK BK327.out⟩, ⟨sqB⟩⟩
    ·rw [if_neg c10] at H
     have c10b0 : decide (x4_1 ≤ t332) = false := decide_eq_false c10
     clear c10
     obtain rfl := Option.some.inj H
     have hcz20_0 : wr.cell? ⟨gb327, 0, none⟩ = some (.int .i64 a0_0) := (zb BK327.out 0).trans rfl
     have hcz20_1 : wr.cell? ⟨gb327, 1, none⟩ = some (.slice A0_1 l0_1.length c0_1) := (zb BK327.out 1).trans rfl
     have hfz20_0 := za BK327.out 0
     have hfz20_1 := za BK327.out 1
     go_wp2_with (first | ((with_reducible refine zd (f := 63) rfl ?_); refine zn (some 13) rfl rfl Try.func63 (by kernel_rfl) rfl #[.int .i64 a0_0] rfl sqM ?_; (with_reducible refine (qB.calls a0_0 t332 _ A9.out).mono ?_); rintro e w' ⟨rfl, ⟨nd, rfl⟩⟩; refine ⟨_, rfl, ?_⟩))
     go_ret
     exact ⟨_, sqE, sqR HO_3.out, sqB⟩
 ·replace c3 := Bool.eq_false_iff.mpr c3
  subst c3
  have H1 : (some y328) = some r := by rw [if_neg (show ¬ (false = true) by decide)] at H; exact H
  clear H
  have H := H1
  clear H1
  obtain rfl := Option.some.inj H
  go_enter Try.func51, Try.ntmps51
  go_wp2_with (first | ((with_reducible refine zi (N := 1) rfl ?_); refine zl ?hg (N := 1) ?hd (cs := #[.int .i64 a0_0, .slice A0_1 l0_1.length c0_1]) (t := 27) ?hr ?_; (case hd => rfl); (case hg => rfl); (case hr => exact sqG); intro gb327 hg w21 hbox hb; have n0_ := Aside0.mk (zc sqB hb); have n1_ := Aside0.mk (hbox); have n2_ := Aside0.mk ((sqS hg : w.heap.size ≤ gb327)); have n3_ := Aside0.mk ((sqS hg : w.heap.size ≤ gb327)); clear HB; have HB := n0_; have BK327 := n1_; have GW327 := n2_; have GE327 := n3_; clear n0_ n1_ n2_ n3_; clear hb hbox hg) | ((with_reducible refine zi (N := 5) rfl ?_); refine Kd.jx (Kd.int .i64) _ 3 ?hg (N := 5) ?hd (xs := ([] : List Int)) (inner := []) (ok := fun _ => True) (okp := fun _ => True) ?hr ?hp (fun _ hk => hk) trivial (Below.refl _ _) (Nat.le_refl _) (by simp) ?_; (case hd => rfl); (case hg => rfl); (case hr => exact sqG); (case hp => exact (qT.none _ _)); intro v329 w22 ho23 hb hg_ hnew_; clear hg_ hnew_; (first | rw [← Ny328.out] at ho23 | (simp only [Int.reduceToNat] at ho23; rw [← Ny328.out] at ho23)); have n0_ := Aside0.mk (Kd.zD ho23 (zg sqB)); have n1_ := Aside0.mk (ze (g := gb327) (o := .cells #[.int .i64 a0_0, .slice A0_1 l0_1.length c0_1] 27 (0, 0)) (sqK BK327.out) hb); have n2_ := Aside0.mk (zc sqB hb); clear BK327; clear HB; have HO330 := n0_; have BK327 := n1_; have HB := n2_; clear n0_ n1_ n2_; clear hb ho23; have hcz24_0 : w22.cell? ⟨gb327, 0, none⟩ = some (.int .i64 a0_0) := (zb BK327.out 0).trans rfl; have hcz24_1 : w22.cell? ⟨gb327, 1, none⟩ = some (.slice A0_1 l0_1.length c0_1) := (zb BK327.out 1).trans rfl; have hfz24_0 := za BK327.out 0; have hfz24_1 := za BK327.out 1) | ((with_reducible refine zd (f := 37) rfl ?_); refine zn (some 7) rfl rfl Try.func37 (by kernel_rfl) rfl #[.agg #[.int .i64 a0_0, .slice A0_1 l0_1.length c0_1]] rfl sqM ?_; (with_reducible refine (zA.calls k a0_0 _ _ l0_1 false _ ?side1 ?side2 A2.out).mono ?_); (case side1 => exact sqC (Kd.zp HR0_1.out HB.out)); (case side2 => exact HC0_1.out); rintro e w25 ⟨rfl, hb⟩; refine ⟨_, rfl, ?_⟩; have n0_ := Aside0.mk (Kd.zz (sqR HO330.out) hb); have n1_ := Aside0.mk (ze (g := gb327) (o := .cells #[.int .i64 a0_0, .slice A0_1 l0_1.length c0_1] 27 (0, 0)) (sqK BK327.out) hb); have n2_ := Aside0.mk (zc sqB hb); clear HO330; clear BK327; clear HB; have HO330 := n0_; have BK327 := n1_; have HB := n2_; clear n0_ n1_ n2_; (try clear hb); (try clear hb2); (try clear hk); (try clear hi)))
  go_ret
  exact ⟨_, sqE, sqR HO330.out, sqB⟩

def vX.f (k : Nat) (a0 : Int) (l1 : List Int) : Option (Int × List Int × Bool) := (zQ.f k a0 l1).bind fun t339 => (if t339 = true then ((zN.f k l1).bind fun t340 => ((zA.f k a0 t340).bind fun t344 => (if t344 = true then ((zH.f k a0 t340).bind fun t345 => ((qn.f k t345 l1).bind fun t348 => (if t348 = true then (some (a0, t340, true)) else (some (0, ([] : List Int), false))))) else (some (0, ([] : List Int), false))))) else (some (0, ([] : List Int), false)))
theorem vX.calls (k : Nat) (a0 : Int) (A1 : Option Addr) (c1 : Nat) (l1 : List Int) (r1 : Int) (r2 : List Int) (r3 : Bool) (w : World) (hr1 : Kd.C (Kd.int .i64) w A1 l1.length l1) (hc1 : l1.length ≤ c1) (h : vX.f k a0 l1 = some (r1, r2, r3)) :
  Calls Try.prog 20 #[.int .i64 a0, .slice A1 l1.length c1] w fun e w' => ∃ v1_ : Value, e = .returned (.tuple #[.agg #[.int .i64 r1, v1_], .bool r3]) ∧ Kd.R (Kd.int .i64) 3 w' w.heap.size (fun _ => True) v1_ r2 ∧ Below w.heap.size w w' := by
 have hu27 := Try.underlying27
 have HR1 := Aside0.mk hr1
 have HC1 := Aside0.mk hc1
 clear hr1 hc1
 have HB := Aside0.mk (Below.refl w.heap.size w)
 have H : ((zQ.f k a0 l1).bind fun t339 => (if t339 = true then ((zN.f k l1).bind fun t340 => ((zA.f k a0 t340).bind fun t344 => (if t344 = true then ((zH.f k a0 t340).bind fun t345 => ((qn.f k t345 l1).bind fun t348 => (if t348 = true then (some (a0, t340, true)) else (some (0, ([] : List Int), false))))) else (some (0, ([] : List Int), false))))) else (some (0, ([] : List Int), false)))) = some (r1, r2, r3) := h
 clear h
 replace H := Option.bind_eq_some_iff.mp H
 obtain ⟨t339, A30, H⟩ := H
 replace H : (if t339 = true then ((zN.f k l1).bind fun t340 => ((zA.f k a0 t340).bind fun t344 => (if t344 = true then ((zH.f k a0 t340).bind fun t345 => ((qn.f k t345 l1).bind fun t348 => (if t348 = true then (some (a0, t340, true)) else (some (0, ([] : List Int), false))))) else (some (0, ([] : List Int), false))))) else (some (0, ([] : List Int), false))) = some (r1, r2, r3) := H
 have A3 := Aside0.mk A30
 clear A30
 by_cases c4 : t339 = true
 ·subst c4
  have H1 : ((zN.f k l1).bind fun t340 => ((zA.f k a0 t340).bind fun t344 => (if t344 = true then ((zH.f k a0 t340).bind fun t345 => ((qn.f k t345 l1).bind fun t348 => (if t348 = true then (some (a0, t340, true)) else (some (0, ([] : List Int), false))))) else (some (0, ([] : List Int), false))))) = some (r1, r2, r3) := by rw [if_pos rfl] at H; exact H
  clear H
  have H := H1
  clear H1
  replace H := Option.bind_eq_some_iff.mp H
  obtain ⟨t340, A50, H⟩ := H
  replace H : ((zA.f k a0 t340).bind fun t344 => (if t344 = true then ((zH.f k a0 t340).bind fun t345 => ((qn.f k t345 l1).bind fun t348 => (if t348 = true then (some (a0, t340, true)) else (some (0, ([] : List Int), false))))) else (some (0, ([] : List Int), false)))) = some (r1, r2, r3) := H
  have A5 := Aside0.mk A50
  clear A50
  replace H := Option.bind_eq_some_iff.mp H
  obtain ⟨t344, A60, H⟩ := H
  replace H : (if t344 = true then ((zH.f k a0 t340).bind fun t345 => ((qn.f k t345 l1).bind fun t348 => (if t348 = true then (some (a0, t340, true)) else (some (0, ([] : List Int), false))))) else (some (0, ([] : List Int), false))) = some (r1, r2, r3) := H
  have A6 := Aside0.mk A60
  clear A60
  by_cases c7 : t344 = true
  ·subst c7
   have H1 : ((zH.f k a0 t340).bind fun t345 => ((qn.f k t345 l1).bind fun t348 => (if t348 = true then (some (a0, t340, true)) else (some (0, ([] : List Int), false))))) = some (r1, r2, r3) := by rw [if_pos rfl] at H; exact H
   clear H
   have H := H1
   clear H1
   replace H := Option.bind_eq_some_iff.mp H
   obtain ⟨t345, A80, H⟩ := H
   replace H : ((qn.f k t345 l1).bind fun t348 => (if t348 = true then (some (a0, t340, true)) else (some (0, ([] : List Int), false)))) = some (r1, r2, r3) := H
   have A8 := Aside0.mk A80
   clear A80
   replace H := Option.bind_eq_some_iff.mp H
   obtain ⟨t348, A90, H⟩ := H
   replace H : (if t348 = true then (some (a0, t340, true)) else (some (0, ([] : List Int), false))) = some (r1, r2, r3) := H
   have A9 := Aside0.mk A90
   clear A90
   by_cases c10 : t348 = true
   ·subst c10
    have H1 : (some (a0, t340, true)) = some (r1, r2, r3) := by rw [if_pos rfl] at H; exact H
    clear H
    have H := H1
    clear H1
    simp only [Option.some.injEq, Prod.mk.injEq] at H
    obtain ⟨rfl, rfl, rfl⟩ := H
    go_enter Try.func20, Try.ntmps20
    go_wp2_with (first | ((with_reducible refine zi (N := 4) rfl ?_); refine zl ?hg (N := 4) ?hd (cs := #[.int .i64 0, .slice none 0 0]) (t := 27) ?hr ?_; (case hd => rfl); (case hg => rfl); (case hr => exact sqG); intro gb338 hg w11 hbox hb; have n0_ := Aside0.mk (zc sqB hb); have n1_ := Aside0.mk (hbox); have n2_ := Aside0.mk ((sqS hg : w.heap.size ≤ gb338)); have n3_ := Aside0.mk ((sqS hg : w.heap.size ≤ gb338)); clear HB; have HB := n0_; have BK338 := n1_; have GW338 := n2_; have GE338 := n3_; clear n0_ n1_ n2_ n3_; clear hb hbox hg) | ((with_reducible refine zd (f := 48) rfl ?_); refine zn (some 9) rfl rfl Try.func48 (by kernel_rfl) rfl #[.int .i64 a0, .slice A1 l1.length c1] rfl sqM ?_; (with_reducible refine (zQ.calls k a0 _ _ l1 true _ ?side1 ?side2 A3.out).mono ?_); (case side1 => exact sqC (Kd.zp HR1.out HB.out)); (case side2 => exact HC1.out); rintro e w' ⟨rfl, ⟨nd, rfl⟩⟩; refine ⟨_, rfl, ?_⟩; (try (rw [qz w11]; generalize hq_ : World.drewN w11 _ = w11; have n0_ : Aside0 (w11.heap[gb338]? = some (.cells #[.int .i64 0, .slice none 0 0] 27 (0, 0))) := ⟨by rw [← hq_]; exact (sqK BK338.out)⟩; have n1_ : Aside0 (Below w.heap.size w w11) := ⟨by rw [← hq_]; exact sqB⟩; clear BK338 HB hq_; have BK338 := n0_; have HB := n1_; clear n0_ n1_; have hczqgb338_0 : w11.cell? ⟨gb338, 0, none⟩ = some (.int .i64 0) := (zb BK338.out 0).trans rfl; have hfzqgb338_0 := za BK338.out 0; have hczqgb338_1 : w11.cell? ⟨gb338, 1, none⟩ = some (.slice none 0 0) := (zb BK338.out 1).trans rfl; have hfzqgb338_1 := za BK338.out 1))) | ((with_reducible refine zd (f := 49) rfl ?_); refine zn (some 14) rfl rfl Try.func49 (by kernel_rfl) rfl #[.slice A1 l1.length c1] rfl sqM ?_; (with_reducible refine (zN.calls k _ _ l1 t340 _ ?side1 ?side2 A5.out).mono ?_); (case side1 => exact sqC (Kd.zp HR1.out HB.out)); (case side2 => exact HC1.out); rintro e w12 ⟨v341, rfl, ho0, hb⟩; refine ⟨_, rfl, ?_⟩; have n0_ := Aside0.mk (Kd.zD ho0 (zg sqB)); have n1_ := Aside0.mk (ze (g := gb338) (o := .cells #[.int .i64 0, .slice none 0 0] 27 (0, 0)) (sqK BK338.out) hb); have n2_ := Aside0.mk (zc sqB hb); clear BK338; clear HB; have HO342 := n0_; have BK338 := n1_; have HB := n2_; clear n0_ n1_ n2_; (try clear hb); (try clear hb2); (try clear hk); (try clear hi); (try clear ho0); obtain ⟨Ao13, co13, eo13⟩ := Kd.zR HO342.out; subst eo13) | ((with_reducible refine zi (N := 6) rfl ?_); refine zl ?hg (N := 6) ?hd (cs := #[.int .i64 0, .slice none 0 0]) (t := 27) ?hr ?_; (case hd => rfl); (case hg => rfl); (case hr => exact sqG); intro gb343 hg w14 hbox hb; have n0_ := Aside0.mk (Kd.zz (sqR HO342.out) hb); have n1_ := Aside0.mk (ze (g := gb338) (o := .cells #[.int .i64 0, .slice none 0 0] 27 (0, 0)) (sqK BK338.out) hb); have n2_ := Aside0.mk (zc sqB hb); have n3_ := Aside0.mk (hbox); have n4_ := Aside0.mk ((sqS hg : w.heap.size ≤ gb343)); have n5_ := Aside0.mk ((sqS hg : w.heap.size ≤ gb343)); have n6_ := Aside0.mk ((by rw [hg]; exact Nat.ne_of_lt (zV (g := gb338) (o := .cells #[.int .i64 0, .slice none 0 0] 27 (0, 0)) (sqK BK338.out)) : gb338 ≠ gb343)); have n7_ := Aside0.mk ((by rw [hg]; exact Nat.ne_of_gt (zV (g := gb338) (o := .cells #[.int .i64 0, .slice none 0 0] 27 (0, 0)) (sqK BK338.out)) : gb343 ≠ gb338)); clear HO342; clear BK338; clear HB; have HO342 := n0_; have BK338 := n1_; have HB := n2_; have BK343 := n3_; have GW343 := n4_; have GE343 := n5_; have NB338_343 := n6_; have NB343_338 := n7_; clear n0_ n1_ n2_ n3_ n4_ n5_ n6_ n7_; clear hb hbox hg; have hnb15 := NB343_338.out; have hnc15 := NB338_343.out; have hcz16_0 : w14.cell? ⟨gb343, 0, none⟩ = some (.int .i64 0) := (zb BK343.out 0).trans rfl; have hcz16_1 : w14.cell? ⟨gb343, 1, none⟩ = some (.slice none 0 0) := (zb BK343.out 1).trans rfl; have hfz16_0 := za BK343.out 0; have hfz16_1 := za BK343.out 1) | ((with_reducible refine zd (f := 37) rfl ?_); refine zn (some 17) rfl rfl Try.func37 (by kernel_rfl) rfl #[.agg #[.int .i64 a0, .slice Ao13 t340.length co13]] rfl sqM ?_; (with_reducible refine (zA.calls k a0 _ _ t340 true _ ?side1 ?side2 A6.out).mono ?_); (case side1 => refine (Kd.zh (e := 3) (base := w.heap.size) (ok := fun k_ => True) (n := t340.length) (c := co13) ?_).2.2; exact (by refine sqR ?_; exact (Kd.zu (Kd.zC (p := ⟨gb343, 1, none⟩) (Kd.zC (p := ⟨gb343, 0, none⟩) (Kd.zK HO342.out BK343.out (by decide)) (fun _ hk => hk.2) (.int .i64 a0)) (fun _ hk => hk.2) (.slice Ao13 t340.length co13)) (fun _ h_ => h_.1)))); (case side2 => exact (Kd.zh HO342.out).2.1); rintro e w17 ⟨rfl, hb⟩; refine ⟨_, rfl, ?_⟩; have n0_ := Aside0.mk (Kd.zz (by refine sqR ?_; exact (Kd.zu (Kd.zC (p := ⟨gb343, 1, none⟩) (Kd.zC (p := ⟨gb343, 0, none⟩) (Kd.zK HO342.out BK343.out (by decide)) (fun _ hk => hk.2) (.int .i64 a0)) (fun _ hk => hk.2) (.slice Ao13 t340.length co13)) (fun _ h_ => h_.1))) hb); have n1_ := Aside0.mk (ze (g := gb338) (o := .cells #[.int .i64 0, .slice none 0 0] 27 (0, 0)) (by refine sqK ?_; refine qk ?_ NB338_343.out _; refine sqK ?_; refine qk ?_ NB338_343.out _; refine sqK ?_; exact BK338.out) hb); have n2_ := Aside0.mk (ze (g := gb343) (o := .cells #[.int .i64 a0, .slice Ao13 t340.length co13] 27 (0, 0)) (by refine sqK ?_; refine zB (cs := #[.int .i64 a0, .slice none 0 0]) ?_ 1 _ rfl; refine sqK ?_; refine zB (cs := #[.int .i64 0, .slice none 0 0]) ?_ 0 _ rfl; refine sqK ?_; exact BK343.out) hb); have n3_ := Aside0.mk (zc sqB hb); clear HO342; clear BK338; clear BK343; clear HB; have HO342 := n0_; have BK338 := n1_; have BK343 := n2_; have HB := n3_; clear n0_ n1_ n2_ n3_; (try clear hb); (try clear hb2); (try clear hk); (try clear hi); have hcz18_0 : w17.cell? ⟨gb343, 0, none⟩ = some (.int .i64 a0) := (zb BK343.out 0).trans rfl; have hcz18_1 : w17.cell? ⟨gb343, 1, none⟩ = some (.slice Ao13 t340.length co13) := (zb BK343.out 1).trans rfl; have hfz18_0 := za BK343.out 0; have hfz18_1 := za BK343.out 1) | (go_at_call 51; (try simp only [zj, zo]); (with_reducible refine (zH.calls k a0 _ _ t340 t345 _ ?side1 ?side2 A8.out).mono ?_); (case side1 => exact sqC (Kd.zh HO342.out).2.2); (case side2 => exact (Kd.zh HO342.out).2.1); rintro e w19 ⟨v346, rfl, ho0, hb⟩; have n0_ := Aside0.mk (Kd.zU (sqR HO342.out) (Kd.qt ho0) hb); have n1_ := Aside0.mk (Kd.zD (Kd.qu ho0 (Kd.jd (sqR HO342.out))) (zg sqB)); have n2_ := Aside0.mk (ze (g := gb338) (o := .cells #[.int .i64 0, .slice none 0 0] 27 (0, 0)) (sqK BK338.out) hb); have n3_ := Aside0.mk (ze (g := gb343) (o := .cells #[.int .i64 a0, .slice Ao13 t340.length co13] 27 (0, 0)) (sqK BK343.out) hb); have n4_ := Aside0.mk (zc sqB hb); clear HO342; clear BK338; clear BK343; clear HB; have HO342 := n0_; have HO347 := n1_; have BK338 := n2_; have BK343 := n3_; have HB := n4_; clear n0_ n1_ n2_ n3_ n4_; (try clear hb); (try clear hb2); (try clear hk); (try clear hi); (try clear ho0); obtain ⟨Ao20, co20, eo20⟩ := Kd.zR HO347.out; subst eo20) | (go_at_call 50; (try simp only [zj, zo]); (with_reducible refine (qn.calls k _ _ t345 _ _ l1 true _ ?side1 ?side2 ?side3 ?side4 A9.out).mono ?_); (case side1 => exact sqC (Kd.zh HO347.out).2.2); (case side2 => exact (Kd.zh HO347.out).2.1); (case side3 => exact sqC (Kd.zp HR1.out HB.out)); (case side4 => exact HC1.out); rintro e w' ⟨rfl, ⟨nd, rfl⟩⟩; (try (rw [qz w19]; generalize hq_ : World.drewN w19 _ = w19; have n0_ : Aside0 (Kd.R (Kd.int .i64) 3 w19 w.heap.size (fun k_ => some k_ ≠ (.slice Ao20 t345.length co20 : Value).ownBlock) (.slice Ao13 t340.length co13) t340) := ⟨by rw [← hq_]; exact (by refine sqR ?_; exact Kd.zu HO342.out (fun _ hk => hk.2))⟩; have n1_ : Aside0 (Kd.R (Kd.int .i64) 3 w19 w.heap.size (fun k_ => some k_ ≠ (.slice Ao13 t340.length co13 : Value).ownBlock) (.slice Ao20 t345.length co20) t345) := ⟨by rw [← hq_]; exact (by refine sqR ?_; exact Kd.zu HO347.out (fun _ hk => hk.2))⟩; have n2_ : Aside0 (w19.heap[gb338]? = some (.cells #[.int .i64 0, .slice none 0 0] 27 (0, 0))) := ⟨by rw [← hq_]; exact (sqK BK338.out)⟩; have n3_ : Aside0 (w19.heap[gb343]? = some (.cells #[.int .i64 a0, .slice Ao13 t340.length co13] 27 (0, 0))) := ⟨by rw [← hq_]; exact (sqK BK343.out)⟩; have n4_ : Aside0 (Below w.heap.size w w19) := ⟨by rw [← hq_]; exact sqB⟩; clear HO342 HO347 BK338 BK343 HB hq_; have HO342 := n0_; have HO347 := n1_; have BK338 := n2_; have BK343 := n3_; have HB := n4_; clear n0_ n1_ n2_ n3_ n4_; have hczqgb338_0 : w19.cell? ⟨gb338, 0, none⟩ = some (.int .i64 0) := (zb BK338.out 0).trans rfl; have hfzqgb338_0 := za BK338.out 0; have hczqgb338_1 : w19.cell? ⟨gb338, 1, none⟩ = some (.slice none 0 0) := (zb BK338.out 1).trans rfl; have hfzqgb338_1 := za BK338.out 1; have hczqgb343_0 : w19.cell? ⟨gb343, 0, none⟩ = some (.int .i64 a0) := (zb BK343.out 0).trans rfl; have hfzqgb343_0 := za BK343.out 0; have hczqgb343_1 : w19.cell? ⟨gb343, 1, none⟩ = some (.slice Ao13 t340.length co13) := (zb BK343.out 1).trans rfl; have hfzqgb343_1 := za BK343.out 1)); have hcz21_0 : w19.cell? ⟨gb343, 0, none⟩ = some (.int .i64 a0) := (zb BK343.out 0).trans rfl; have hcz21_1 : w19.cell? ⟨gb343, 1, none⟩ = some (.slice Ao13 t340.length co13) := (zb BK343.out 1).trans rfl; have hfz21_0 := za BK343.out 0; have hfz21_1 := za BK343.out 1; have hcz22_0 : w19.cell? ⟨gb338, 0, none⟩ = some (.int .i64 0) := (zb BK338.out 0).trans rfl; have hcz22_1 : w19.cell? ⟨gb338, 1, none⟩ = some (.slice none 0 0) := (zb BK338.out 1).trans rfl; have hfz22_0 := za BK338.out 0; have hfz22_1 := za BK338.out 1))
    refine bodyPost_ret (qG rfl _ _ gb338 27 #[.int .i64 a0, .slice Ao13 t340.length co13] (0, 0) _ rfl (by refine sqK ?_; refine zB (cs := #[.int .i64 a0, .slice none 0 0]) ?_ 1 _ rfl; refine sqK ?_; refine zB (cs := #[.int .i64 0, .slice none 0 0]) ?_ 0 _ rfl; refine sqK ?_; exact BK338.out) Try.underlying27 rfl (by kernel_rfl)) rfl ?_
    exact ⟨_, sqE, by refine sqR ?_; exact Kd.zu (Kd.zC (p := ⟨gb338, 1, none⟩) (Kd.zC (p := ⟨gb338, 0, none⟩) (Kd.zK HO342.out BK338.out (by decide)) (fun _ hk => hk.2) (.int .i64 a0)) (fun _ hk => hk.2) (.slice Ao13 t340.length co13)) (fun _ hk => trivial), sqB⟩
   ·replace c10 := Bool.eq_false_iff.mpr c10
    subst c10
    have H1 : (some (0, ([] : List Int), false)) = some (r1, r2, r3) := by rw [if_neg (show ¬ (false = true) by decide)] at H; exact H
    clear H
    have H := H1
    clear H1
    simp only [Option.some.injEq, Prod.mk.injEq] at H
    obtain ⟨rfl, rfl, rfl⟩ := H
    go_enter Try.func20, Try.ntmps20
    go_wp2_with (first | ((with_reducible refine zi (N := 4) rfl ?_); refine zl ?hg (N := 4) ?hd (cs := #[.int .i64 0, .slice none 0 0]) (t := 27) ?hr ?_; (case hd => rfl); (case hg => rfl); (case hr => exact sqG); intro gb338 hg w23 hbox hb; have n0_ := Aside0.mk (zc sqB hb); have n1_ := Aside0.mk (hbox); have n2_ := Aside0.mk ((sqS hg : w.heap.size ≤ gb338)); have n3_ := Aside0.mk ((sqS hg : w.heap.size ≤ gb338)); clear HB; have HB := n0_; have BK338 := n1_; have GW338 := n2_; have GE338 := n3_; clear n0_ n1_ n2_ n3_; clear hb hbox hg) | ((with_reducible refine zd (f := 48) rfl ?_); refine zn (some 9) rfl rfl Try.func48 (by kernel_rfl) rfl #[.int .i64 a0, .slice A1 l1.length c1] rfl sqM ?_; (with_reducible refine (zQ.calls k a0 _ _ l1 true _ ?side1 ?side2 A3.out).mono ?_); (case side1 => exact sqC (Kd.zp HR1.out HB.out)); (case side2 => exact HC1.out); rintro e w' ⟨rfl, ⟨nd, rfl⟩⟩; refine ⟨_, rfl, ?_⟩; (try (rw [qz w23]; generalize hq_ : World.drewN w23 _ = w23; have n0_ : Aside0 (w23.heap[gb338]? = some (.cells #[.int .i64 0, .slice none 0 0] 27 (0, 0))) := ⟨by rw [← hq_]; exact (sqK BK338.out)⟩; have n1_ : Aside0 (Below w.heap.size w w23) := ⟨by rw [← hq_]; exact sqB⟩; clear BK338 HB hq_; have BK338 := n0_; have HB := n1_; clear n0_ n1_; have hczqgb338_0 : w23.cell? ⟨gb338, 0, none⟩ = some (.int .i64 0) := (zb BK338.out 0).trans rfl; have hfzqgb338_0 := za BK338.out 0; have hczqgb338_1 : w23.cell? ⟨gb338, 1, none⟩ = some (.slice none 0 0) := (zb BK338.out 1).trans rfl; have hfzqgb338_1 := za BK338.out 1))) | ((with_reducible refine zd (f := 49) rfl ?_); refine zn (some 14) rfl rfl Try.func49 (by kernel_rfl) rfl #[.slice A1 l1.length c1] rfl sqM ?_; (with_reducible refine (zN.calls k _ _ l1 t340 _ ?side1 ?side2 A5.out).mono ?_); (case side1 => exact sqC (Kd.zp HR1.out HB.out)); (case side2 => exact HC1.out); rintro e w24 ⟨v341, rfl, ho0, hb⟩; refine ⟨_, rfl, ?_⟩; have n0_ := Aside0.mk (Kd.zD ho0 (zg sqB)); have n1_ := Aside0.mk (ze (g := gb338) (o := .cells #[.int .i64 0, .slice none 0 0] 27 (0, 0)) (sqK BK338.out) hb); have n2_ := Aside0.mk (zc sqB hb); clear BK338; clear HB; have HO342 := n0_; have BK338 := n1_; have HB := n2_; clear n0_ n1_ n2_; (try clear hb); (try clear hb2); (try clear hk); (try clear hi); (try clear ho0); obtain ⟨Ao25, co25, eo25⟩ := Kd.zR HO342.out; subst eo25) | ((with_reducible refine zi (N := 6) rfl ?_); refine zl ?hg (N := 6) ?hd (cs := #[.int .i64 0, .slice none 0 0]) (t := 27) ?hr ?_; (case hd => rfl); (case hg => rfl); (case hr => exact sqG); intro gb343 hg w26 hbox hb; have n0_ := Aside0.mk (Kd.zz (sqR HO342.out) hb); have n1_ := Aside0.mk (ze (g := gb338) (o := .cells #[.int .i64 0, .slice none 0 0] 27 (0, 0)) (sqK BK338.out) hb); have n2_ := Aside0.mk (zc sqB hb); have n3_ := Aside0.mk (hbox); have n4_ := Aside0.mk ((sqS hg : w.heap.size ≤ gb343)); have n5_ := Aside0.mk ((sqS hg : w.heap.size ≤ gb343)); have n6_ := Aside0.mk ((by rw [hg]; exact Nat.ne_of_lt (zV (g := gb338) (o := .cells #[.int .i64 0, .slice none 0 0] 27 (0, 0)) (sqK BK338.out)) : gb338 ≠ gb343)); have n7_ := Aside0.mk ((by rw [hg]; exact Nat.ne_of_gt (zV (g := gb338) (o := .cells #[.int .i64 0, .slice none 0 0] 27 (0, 0)) (sqK BK338.out)) : gb343 ≠ gb338)); clear HO342; clear BK338; clear HB; have HO342 := n0_; have BK338 := n1_; have HB := n2_; have BK343 := n3_; have GW343 := n4_; have GE343 := n5_; have NB338_343 := n6_; have NB343_338 := n7_; clear n0_ n1_ n2_ n3_ n4_ n5_ n6_ n7_; clear hb hbox hg; have hnb27 := NB343_338.out; have hnc27 := NB338_343.out; have hcz28_0 : w26.cell? ⟨gb343, 0, none⟩ = some (.int .i64 0) := (zb BK343.out 0).trans rfl; have hcz28_1 : w26.cell? ⟨gb343, 1, none⟩ = some (.slice none 0 0) := (zb BK343.out 1).trans rfl; have hfz28_0 := za BK343.out 0; have hfz28_1 := za BK343.out 1) | ((with_reducible refine zd (f := 37) rfl ?_); refine zn (some 17) rfl rfl Try.func37 (by kernel_rfl) rfl #[.agg #[.int .i64 a0, .slice Ao25 t340.length co25]] rfl sqM ?_; (with_reducible refine (zA.calls k a0 _ _ t340 true _ ?side1 ?side2 A6.out).mono ?_); (case side1 => refine (Kd.zh (e := 3) (base := w.heap.size) (ok := fun k_ => True) (n := t340.length) (c := co25) ?_).2.2; exact (by refine sqR ?_; exact (Kd.zu (Kd.zC (p := ⟨gb343, 1, none⟩) (Kd.zC (p := ⟨gb343, 0, none⟩) (Kd.zK HO342.out BK343.out (by decide)) (fun _ hk => hk.2) (.int .i64 a0)) (fun _ hk => hk.2) (.slice Ao25 t340.length co25)) (fun _ h_ => h_.1)))); (case side2 => exact (Kd.zh HO342.out).2.1); rintro e w29 ⟨rfl, hb⟩; refine ⟨_, rfl, ?_⟩; have n0_ := Aside0.mk (Kd.zz (by refine sqR ?_; exact (Kd.zu (Kd.zC (p := ⟨gb343, 1, none⟩) (Kd.zC (p := ⟨gb343, 0, none⟩) (Kd.zK HO342.out BK343.out (by decide)) (fun _ hk => hk.2) (.int .i64 a0)) (fun _ hk => hk.2) (.slice Ao25 t340.length co25)) (fun _ h_ => h_.1))) hb); have n1_ := Aside0.mk (ze (g := gb338) (o := .cells #[.int .i64 0, .slice none 0 0] 27 (0, 0)) (by refine sqK ?_; refine qk ?_ NB338_343.out _; refine sqK ?_; refine qk ?_ NB338_343.out _; refine sqK ?_; exact BK338.out) hb); have n2_ := Aside0.mk (ze (g := gb343) (o := .cells #[.int .i64 a0, .slice Ao25 t340.length co25] 27 (0, 0)) (by refine sqK ?_; refine zB (cs := #[.int .i64 a0, .slice none 0 0]) ?_ 1 _ rfl; refine sqK ?_; refine zB (cs := #[.int .i64 0, .slice none 0 0]) ?_ 0 _ rfl; refine sqK ?_; exact BK343.out) hb); have n3_ := Aside0.mk (zc sqB hb); clear HO342; clear BK338; clear BK343; clear HB; have HO342 := n0_; have BK338 := n1_; have BK343 := n2_; have HB := n3_; clear n0_ n1_ n2_ n3_; (try clear hb); (try clear hb2); (try clear hk); (try clear hi); have hcz30_0 : w29.cell? ⟨gb343, 0, none⟩ = some (.int .i64 a0) := (zb BK343.out 0).trans rfl; have hcz30_1 : w29.cell? ⟨gb343, 1, none⟩ = some (.slice Ao25 t340.length co25) := (zb BK343.out 1).trans rfl; have hfz30_0 := za BK343.out 0; have hfz30_1 := za BK343.out 1) | (go_at_call 51; (try simp only [zj, zo]); (with_reducible refine (zH.calls k a0 _ _ t340 t345 _ ?side1 ?side2 A8.out).mono ?_); (case side1 => exact sqC (Kd.zh HO342.out).2.2); (case side2 => exact (Kd.zh HO342.out).2.1); rintro e w31 ⟨v346, rfl, ho0, hb⟩; have n0_ := Aside0.mk (Kd.zU (sqR HO342.out) (Kd.qt ho0) hb); have n1_ := Aside0.mk (Kd.zD (Kd.qu ho0 (Kd.jd (sqR HO342.out))) (zg sqB)); have n2_ := Aside0.mk (ze (g := gb338) (o := .cells #[.int .i64 0, .slice none 0 0] 27 (0, 0)) (sqK BK338.out) hb); have n3_ := Aside0.mk (ze (g := gb343) (o := .cells #[.int .i64 a0, .slice Ao25 t340.length co25] 27 (0, 0)) (sqK BK343.out) hb); have n4_ := Aside0.mk (zc sqB hb); clear HO342; clear BK338; clear BK343; clear HB; have HO342 := n0_; have HO347 := n1_; have BK338 := n2_; have BK343 := n3_; have HB := n4_; clear n0_ n1_ n2_ n3_ n4_; (try clear hb); (try clear hb2); (try clear hk); (try clear hi); (try clear ho0); obtain ⟨Ao32, co32, eo32⟩ := Kd.zR HO347.out; subst eo32) | (go_at_call 50; (try simp only [zj, zo]); (with_reducible refine (qn.calls k _ _ t345 _ _ l1 false _ ?side1 ?side2 ?side3 ?side4 A9.out).mono ?_); (case side1 => exact sqC (Kd.zh HO347.out).2.2); (case side2 => exact (Kd.zh HO347.out).2.1); (case side3 => exact sqC (Kd.zp HR1.out HB.out)); (case side4 => exact HC1.out); rintro e w' ⟨rfl, ⟨nd, rfl⟩⟩; (try (rw [qz w31]; generalize hq_ : World.drewN w31 _ = w31; have n0_ : Aside0 (Kd.R (Kd.int .i64) 3 w31 w.heap.size (fun k_ => some k_ ≠ (.slice Ao32 t345.length co32 : Value).ownBlock) (.slice Ao25 t340.length co25) t340) := ⟨by rw [← hq_]; exact (by refine sqR ?_; exact Kd.zu HO342.out (fun _ hk => hk.2))⟩; have n1_ : Aside0 (Kd.R (Kd.int .i64) 3 w31 w.heap.size (fun k_ => some k_ ≠ (.slice Ao25 t340.length co25 : Value).ownBlock) (.slice Ao32 t345.length co32) t345) := ⟨by rw [← hq_]; exact (by refine sqR ?_; exact Kd.zu HO347.out (fun _ hk => hk.2))⟩; have n2_ : Aside0 (w31.heap[gb338]? = some (.cells #[.int .i64 0, .slice none 0 0] 27 (0, 0))) := ⟨by rw [← hq_]; exact (sqK BK338.out)⟩; have n3_ : Aside0 (w31.heap[gb343]? = some (.cells #[.int .i64 a0, .slice Ao25 t340.length co25] 27 (0, 0))) := ⟨by rw [← hq_]; exact (sqK BK343.out)⟩; have n4_ : Aside0 (Below w.heap.size w w31) := ⟨by rw [← hq_]; exact sqB⟩; clear HO342 HO347 BK338 BK343 HB hq_; have HO342 := n0_; have HO347 := n1_; have BK338 := n2_; have BK343 := n3_; have HB := n4_; clear n0_ n1_ n2_ n3_ n4_; have hczqgb338_0 : w31.cell? ⟨gb338, 0, none⟩ = some (.int .i64 0) := (zb BK338.out 0).trans rfl; have hfzqgb338_0 := za BK338.out 0; have hczqgb338_1 : w31.cell? ⟨gb338, 1, none⟩ = some (.slice none 0 0) := (zb BK338.out 1).trans rfl; have hfzqgb338_1 := za BK338.out 1; have hczqgb343_0 : w31.cell? ⟨gb343, 0, none⟩ = some (.int .i64 a0) := (zb BK343.out 0).trans rfl; have hfzqgb343_0 := za BK343.out 0; have hczqgb343_1 : w31.cell? ⟨gb343, 1, none⟩ = some (.slice Ao25 t340.length co25) := (zb BK343.out 1).trans rfl; have hfzqgb343_1 := za BK343.out 1)); have hcz33_0 : w31.cell? ⟨gb338, 0, none⟩ = some (.int .i64 0) := (zb BK338.out 0).trans rfl; have hcz33_1 : w31.cell? ⟨gb338, 1, none⟩ = some (.slice none 0 0) := (zb BK338.out 1).trans rfl; have hfz33_0 := za BK338.out 0; have hfz33_1 := za BK338.out 1))
    refine bodyPost_ret (qG rfl _ _ gb338 27 #[.int .i64 0, .slice none 0 0] (0, 0) _ rfl (by refine sqK ?_; refine zB (cs := #[.int .i64 0, .slice none 0 0]) ?_ 1 _ rfl; refine sqK ?_; refine zB (cs := #[.int .i64 0, .slice none 0 0]) ?_ 0 _ rfl; refine sqK ?_; exact BK338.out) Try.underlying27 rfl (by kernel_rfl)) rfl ?_
    exact ⟨_, sqE, sqN, sqB⟩
  ·replace c7 := Bool.eq_false_iff.mpr c7
   subst c7
   have H1 : (some (0, ([] : List Int), false)) = some (r1, r2, r3) := by rw [if_neg (show ¬ (false = true) by decide)] at H; exact H
   clear H
   have H := H1
   clear H1
   simp only [Option.some.injEq, Prod.mk.injEq] at H
   obtain ⟨rfl, rfl, rfl⟩ := H
   go_enter Try.func20, Try.ntmps20
   go_wp2_with (first | ((with_reducible refine zi (N := 4) rfl ?_); refine zl ?hg (N := 4) ?hd (cs := #[.int .i64 0, .slice none 0 0]) (t := 27) ?hr ?_; (case hd => rfl); (case hg => rfl); (case hr => exact sqG); intro gb338 hg w34 hbox hb; have n0_ := Aside0.mk (zc sqB hb); have n1_ := Aside0.mk (hbox); have n2_ := Aside0.mk ((sqS hg : w.heap.size ≤ gb338)); have n3_ := Aside0.mk ((sqS hg : w.heap.size ≤ gb338)); clear HB; have HB := n0_; have BK338 := n1_; have GW338 := n2_; have GE338 := n3_; clear n0_ n1_ n2_ n3_; clear hb hbox hg) | ((with_reducible refine zd (f := 48) rfl ?_); refine zn (some 9) rfl rfl Try.func48 (by kernel_rfl) rfl #[.int .i64 a0, .slice A1 l1.length c1] rfl sqM ?_; (with_reducible refine (zQ.calls k a0 _ _ l1 true _ ?side1 ?side2 A3.out).mono ?_); (case side1 => exact sqC (Kd.zp HR1.out HB.out)); (case side2 => exact HC1.out); rintro e w' ⟨rfl, ⟨nd, rfl⟩⟩; refine ⟨_, rfl, ?_⟩; (try (rw [qz w34]; generalize hq_ : World.drewN w34 _ = w34; have n0_ : Aside0 (w34.heap[gb338]? = some (.cells #[.int .i64 0, .slice none 0 0] 27 (0, 0))) := ⟨by rw [← hq_]; exact (sqK BK338.out)⟩; have n1_ : Aside0 (Below w.heap.size w w34) := ⟨by rw [← hq_]; exact sqB⟩; clear BK338 HB hq_; have BK338 := n0_; have HB := n1_; clear n0_ n1_; have hczqgb338_0 : w34.cell? ⟨gb338, 0, none⟩ = some (.int .i64 0) := (zb BK338.out 0).trans rfl; have hfzqgb338_0 := za BK338.out 0; have hczqgb338_1 : w34.cell? ⟨gb338, 1, none⟩ = some (.slice none 0 0) := (zb BK338.out 1).trans rfl; have hfzqgb338_1 := za BK338.out 1))) | ((with_reducible refine zd (f := 49) rfl ?_); refine zn (some 14) rfl rfl Try.func49 (by kernel_rfl) rfl #[.slice A1 l1.length c1] rfl sqM ?_; (with_reducible refine (zN.calls k _ _ l1 t340 _ ?side1 ?side2 A5.out).mono ?_); (case side1 => exact sqC (Kd.zp HR1.out HB.out)); (case side2 => exact HC1.out); rintro e w35 ⟨v341, rfl, ho0, hb⟩; refine ⟨_, rfl, ?_⟩; have n0_ := Aside0.mk (Kd.zD ho0 (zg sqB)); have n1_ := Aside0.mk (ze (g := gb338) (o := .cells #[.int .i64 0, .slice none 0 0] 27 (0, 0)) (sqK BK338.out) hb); have n2_ := Aside0.mk (zc sqB hb); clear BK338; clear HB; have HO342 := n0_; have BK338 := n1_; have HB := n2_; clear n0_ n1_ n2_; (try clear hb); (try clear hb2); (try clear hk); (try clear hi); (try clear ho0); obtain ⟨Ao36, co36, eo36⟩ := Kd.zR HO342.out; subst eo36) | ((with_reducible refine zi (N := 6) rfl ?_); refine zl ?hg (N := 6) ?hd (cs := #[.int .i64 0, .slice none 0 0]) (t := 27) ?hr ?_; (case hd => rfl); (case hg => rfl); (case hr => exact sqG); intro gb343 hg w37 hbox hb; have n0_ := Aside0.mk (Kd.zz (sqR HO342.out) hb); have n1_ := Aside0.mk (ze (g := gb338) (o := .cells #[.int .i64 0, .slice none 0 0] 27 (0, 0)) (sqK BK338.out) hb); have n2_ := Aside0.mk (zc sqB hb); have n3_ := Aside0.mk (hbox); have n4_ := Aside0.mk ((sqS hg : w.heap.size ≤ gb343)); have n5_ := Aside0.mk ((sqS hg : w.heap.size ≤ gb343)); have n6_ := Aside0.mk ((by rw [hg]; exact Nat.ne_of_lt (zV (g := gb338) (o := .cells #[.int .i64 0, .slice none 0 0] 27 (0, 0)) (sqK BK338.out)) : gb338 ≠ gb343)); have n7_ := Aside0.mk ((by rw [hg]; exact Nat.ne_of_gt (zV (g := gb338) (o := .cells #[.int .i64 0, .slice none 0 0] 27 (0, 0)) (sqK BK338.out)) : gb343 ≠ gb338)); clear HO342; clear BK338; clear HB; have HO342 := n0_; have BK338 := n1_; have HB := n2_; have BK343 := n3_; have GW343 := n4_; have GE343 := n5_; have NB338_343 := n6_; have NB343_338 := n7_; clear n0_ n1_ n2_ n3_ n4_ n5_ n6_ n7_; clear hb hbox hg; have hnb38 := NB343_338.out; have hnc38 := NB338_343.out; have hcz39_0 : w37.cell? ⟨gb343, 0, none⟩ = some (.int .i64 0) := (zb BK343.out 0).trans rfl; have hcz39_1 : w37.cell? ⟨gb343, 1, none⟩ = some (.slice none 0 0) := (zb BK343.out 1).trans rfl; have hfz39_0 := za BK343.out 0; have hfz39_1 := za BK343.out 1) | ((with_reducible refine zd (f := 37) rfl ?_); refine zn (some 17) rfl rfl Try.func37 (by kernel_rfl) rfl #[.agg #[.int .i64 a0, .slice Ao36 t340.length co36]] rfl sqM ?_; (with_reducible refine (zA.calls k a0 _ _ t340 false _ ?side1 ?side2 A6.out).mono ?_); (case side1 => refine (Kd.zh (e := 3) (base := w.heap.size) (ok := fun k_ => True) (n := t340.length) (c := co36) ?_).2.2; exact (by refine sqR ?_; exact (Kd.zu (Kd.zC (p := ⟨gb343, 1, none⟩) (Kd.zC (p := ⟨gb343, 0, none⟩) (Kd.zK HO342.out BK343.out (by decide)) (fun _ hk => hk.2) (.int .i64 a0)) (fun _ hk => hk.2) (.slice Ao36 t340.length co36)) (fun _ h_ => h_.1)))); (case side2 => exact (Kd.zh HO342.out).2.1); rintro e w40 ⟨rfl, hb⟩; refine ⟨_, rfl, ?_⟩; have n0_ := Aside0.mk (Kd.zz (by refine sqR ?_; exact (Kd.zu (Kd.zC (p := ⟨gb343, 1, none⟩) (Kd.zC (p := ⟨gb343, 0, none⟩) (Kd.zK HO342.out BK343.out (by decide)) (fun _ hk => hk.2) (.int .i64 a0)) (fun _ hk => hk.2) (.slice Ao36 t340.length co36)) (fun _ h_ => h_.1))) hb); have n1_ := Aside0.mk (ze (g := gb338) (o := .cells #[.int .i64 0, .slice none 0 0] 27 (0, 0)) (by refine sqK ?_; refine qk ?_ NB338_343.out _; refine sqK ?_; refine qk ?_ NB338_343.out _; refine sqK ?_; exact BK338.out) hb); have n2_ := Aside0.mk (ze (g := gb343) (o := .cells #[.int .i64 a0, .slice Ao36 t340.length co36] 27 (0, 0)) (by refine sqK ?_; refine zB (cs := #[.int .i64 a0, .slice none 0 0]) ?_ 1 _ rfl; refine sqK ?_; refine zB (cs := #[.int .i64 0, .slice none 0 0]) ?_ 0 _ rfl; refine sqK ?_; exact BK343.out) hb); have n3_ := Aside0.mk (zc sqB hb); clear HO342; clear BK338; clear BK343; clear HB; have HO342 := n0_; have BK338 := n1_; have BK343 := n2_; have HB := n3_; clear n0_ n1_ n2_ n3_; (try clear hb); (try clear hb2); (try clear hk); (try clear hi); have hcz41_0 : w40.cell? ⟨gb338, 0, none⟩ = some (.int .i64 0) := (zb BK338.out 0).trans rfl; have hcz41_1 : w40.cell? ⟨gb338, 1, none⟩ = some (.slice none 0 0) := (zb BK338.out 1).trans rfl; have hfz41_0 := za BK338.out 0; have hfz41_1 := za BK338.out 1))
   refine bodyPost_ret (qG rfl _ _ gb338 27 #[.int .i64 0, .slice none 0 0] (0, 0) _ rfl (by refine sqK ?_; refine zB (cs := #[.int .i64 0, .slice none 0 0]) ?_ 1 _ rfl; refine sqK ?_; refine zB (cs := #[.int .i64 0, .slice none 0 0]) ?_ 0 _ rfl; refine sqK ?_; exact BK338.out) Try.underlying27 rfl (by kernel_rfl)) rfl ?_
   exact ⟨_, sqE, sqN, sqB⟩
 ·replace c4 := Bool.eq_false_iff.mpr c4
  subst c4
  have H1 : (some (0, ([] : List Int), false)) = some (r1, r2, r3) := by rw [if_neg (show ¬ (false = true) by decide)] at H; exact H
  clear H
  have H := H1
  clear H1
  simp only [Option.some.injEq, Prod.mk.injEq] at H
  obtain ⟨rfl, rfl, rfl⟩ := H
  go_enter Try.func20, Try.ntmps20
  go_wp2_with (first | ((with_reducible refine zi (N := 4) rfl ?_); refine zl ?hg (N := 4) ?hd (cs := #[.int .i64 0, .slice none 0 0]) (t := 27) ?hr ?_; (case hd => rfl); (case hg => rfl); (case hr => exact sqG); intro gb338 hg w42 hbox hb; have n0_ := Aside0.mk (zc sqB hb); have n1_ := Aside0.mk (hbox); have n2_ := Aside0.mk ((sqS hg : w.heap.size ≤ gb338)); have n3_ := Aside0.mk ((sqS hg : w.heap.size ≤ gb338)); clear HB; have HB := n0_; have BK338 := n1_; have GW338 := n2_; have GE338 := n3_; clear n0_ n1_ n2_ n3_; clear hb hbox hg) | ((with_reducible refine zd (f := 48) rfl ?_); refine zn (some 9) rfl rfl Try.func48 (by kernel_rfl) rfl #[.int .i64 a0, .slice A1 l1.length c1] rfl sqM ?_; (with_reducible refine (zQ.calls k a0 _ _ l1 false _ ?side1 ?side2 A3.out).mono ?_); (case side1 => exact sqC (Kd.zp HR1.out HB.out)); (case side2 => exact HC1.out); rintro e w' ⟨rfl, ⟨nd, rfl⟩⟩; refine ⟨_, rfl, ?_⟩; (try (rw [qz w42]; generalize hq_ : World.drewN w42 _ = w42; have n0_ : Aside0 (w42.heap[gb338]? = some (.cells #[.int .i64 0, .slice none 0 0] 27 (0, 0))) := ⟨by rw [← hq_]; exact (sqK BK338.out)⟩; have n1_ : Aside0 (Below w.heap.size w w42) := ⟨by rw [← hq_]; exact sqB⟩; clear BK338 HB hq_; have BK338 := n0_; have HB := n1_; clear n0_ n1_; have hczqgb338_0 : w42.cell? ⟨gb338, 0, none⟩ = some (.int .i64 0) := (zb BK338.out 0).trans rfl; have hfzqgb338_0 := za BK338.out 0; have hczqgb338_1 : w42.cell? ⟨gb338, 1, none⟩ = some (.slice none 0 0) := (zb BK338.out 1).trans rfl; have hfzqgb338_1 := za BK338.out 1)); have hcz43_0 : w42.cell? ⟨gb338, 0, none⟩ = some (.int .i64 0) := (zb BK338.out 0).trans rfl; have hcz43_1 : w42.cell? ⟨gb338, 1, none⟩ = some (.slice none 0 0) := (zb BK338.out 1).trans rfl; have hfz43_0 := za BK338.out 0; have hfz43_1 := za BK338.out 1))
  refine bodyPost_ret (qG rfl _ _ gb338 27 #[.int .i64 0, .slice none 0 0] (0, 0) _ rfl (by refine sqK ?_; refine zB (cs := #[.int .i64 0, .slice none 0 0]) ?_ 1 _ rfl; refine sqK ?_; refine zB (cs := #[.int .i64 0, .slice none 0 0]) ?_ 0 _ rfl; refine sqK ?_; exact BK338.out) Try.underlying27 rfl (by kernel_rfl)) rfl ?_
  exact ⟨_, sqE, sqN, sqB⟩

end Go.Proofs.Yteggmbhcnhbamaa.F
end
section
namespace Go.Proofs.Yteggmbhcnhbamaa.Bits
open Go.Proofs.Yteggmbhcnhbamaa.Mt (sdiff qq)
open Go.RowKit Go.Proofs.YteggmbhcnhbamaaW.PrintWords Go.Proofs.YteggmbhcnhbamaaW.PrintLast Go.Proofs.YteggmbhcnhbamaaW.PrintMore

theorem j9 {n : Int} (h0 : -9223372036854775808 ≤ n) (h1 : n < 9223372036854775808) : wrap64 n = n := by unfold wrap64; omega
theorem ZT {n : Int} (h0 : -9223372036854775808 ≤ n) (h1 : n < 9223372036854775808) : IntKind.i64.wrap n = n := by rw [IntKind.wrap_i64]; omega
theorem vK {n : Int} (h0 : 0 ≤ n) (h1 : n < 18446744073709551616) : IntKind.u64.wrap n = n := by
  simp [IntKind.wrap, IntKind.bits, IntKind.signed]; omega
theorem ym (a : Nat) (ha : a < 2 ^ 63) : (BitVec.ofInt 64 (a : Int)).toNat = a := by
  simp; omega
theorem yN (a b : Nat) (ha : a < 2 ^ 63) (hb : b < 2 ^ 63) : Go.bits .and .i64 (a : Int) (b : Int) = ((a &&& b : Nat) : Int) := by
  have hab : a &&& b < 2 ^ 63 := Nat.and_lt_two_pow _ hb
  show IntKind.i64.wrap (((BitVec.ofInt 64 (a : Int) &&& BitVec.ofInt 64 (b : Int)).toNat : Nat) : Int) = _
  rw [BitVec.toNat_and, ym a ha, ym b hb]
  exact ZT (by omega) (by omega)
theorem Qa (a b : Nat) (ha : a < 2 ^ 63) (hb : b < 2 ^ 63) : Go.bits .or .i64 (a : Int) (b : Int) = ((a ||| b : Nat) : Int) := by
  have hab : a ||| b < 2 ^ 63 := Nat.or_lt_two_pow ha hb
  show IntKind.i64.wrap (((BitVec.ofInt 64 (a : Int) ||| BitVec.ofInt 64 (b : Int)).toNat : Nat) : Int) = _
  rw [BitVec.toNat_or, ym a ha, ym b hb]
  exact ZT (by omega) (by omega)
theorem Q0 {a b n : Nat} (ha : a < 2 ^ n) : sdiff a b < 2 ^ n := Nat.xor_lt_two_pow ha (Nat.lt_of_le_of_lt Nat.and_le_left ha)
theorem yb (a b : Nat) (ha : a < 2 ^ 63) (hb : b < 2 ^ 63) : Go.bits .andNot .i64 (a : Int) (b : Int) = ((sdiff a b : Nat) : Int) := by
  have hab : sdiff a b < 2 ^ 63 := Q0 ha
  show IntKind.i64.wrap (((BitVec.ofInt 64 (a : Int) &&& ~~~ BitVec.ofInt 64 (b : Int)).toNat : Nat) : Int) = _
  have : (BitVec.ofInt 64 (a : Int) &&& ~~~ BitVec.ofInt 64 (b : Int)).toNat = sdiff a b := by
    apply Nat.eq_of_testBit_eq
    intro i
    rw [qq]
    rw [BitVec.toNat_and, Nat.testBit_and, ym a ha]
    by_cases hi : i < 64
    · rw [BitVec.testBit_toNat, BitVec.getLsbD_not, ← BitVec.testBit_toNat, ym b hb]; simp [hi]
    · have : a.testBit i = false := Nat.testBit_lt_two_pow (Nat.lt_of_lt_of_le ha (Nat.pow_le_pow_right (by decide) (by omega)))
      simp [this]
  rw [this]
  exact ZT (by omega) (by omega)
theorem vW (e : Nat) (he : e < 63) : shl .i64 1 (e : Int) = ((2 ^ e : Nat) : Int) := by
  have h : 2 ^ e < 2 ^ 63 := Nat.pow_lt_pow_right (by decide) he
  unfold shl
  rw [Nat.min_eq_left (by simp [IntKind.bits]; omega), Int.one_mul, Int.toNat_natCast]
  rw [show (2 : Int) ^ e = ((2 ^ e : Nat) : Int) by simp]
  generalize 2 ^ e = x at h ⊢
  exact ZT (by omega) (by omega)
theorem za1 (a e : Nat) (he : e ≤ 64) : shr .i64 (a : Int) (e : Int) = ((a >>> e : Nat) : Int) := by
  unfold shr
  rw [Nat.min_eq_left (by simp [IntKind.bits]; omega), Int.toNat_natCast, Nat.shiftRight_eq_div_pow]
  simp
theorem Yh (a e : Nat) (ha : a < 2 ^ 63) (he : e ≤ 64) : (Go.bits .and .i64 (shr .i64 (a : Int) (e : Int)) 1 == 1) = a.testBit e := by
  have h1 : a >>> e < 2 ^ 63 := Nat.lt_of_le_of_lt (by rw [Nat.shiftRight_eq_div_pow]; exact Nat.div_le_self _ _) ha
  rw [za1 a e he, show (1 : Int) = ((1 : Nat) : Int) from rfl, yN _ _ h1 (by decide)]
  simp only [Nat.testBit, Nat.and_comm 1]
  rcases Nat.mod_two_eq_zero_or_one (a >>> e) with h | h <;> simp [Nat.and_one_is_mod, h] <;> rfl

end Go.Proofs.Yteggmbhcnhbamaa.Bits
end
section
namespace Go.Proofs.Yteggmbhcnhbamaa.L
open Go.RowKit Go.Proofs.YteggmbhcnhbamaaW.PrintWords Go.Proofs.YteggmbhcnhbamaaW.PrintLast Go.Proofs.YteggmbhcnhbamaaW.PrintMore
open Go.Proofs.Yteggmbhcnhbamaa.Bits

theorem Ev.succ {α : Type} {g : Nat → Option α} {r : α} (h : Ev (fun k => g (k + 1)) r) : Ev g r := Ev.step (fun _ => rfl) h
theorem Ev.some {α : Type} {r s : α} (h : r = s) : Ev (fun _ => Option.some r) s := h ▸ Ev.now r
theorem qo {i : Nat} (h : i < 9223372036854775807) : wrap64 ((i : Int) + 1) = ((i + 1 : Nat) : Int) := j9 (by omega) (by omega)

/-- A loop that asks of all places, and says no at the first that fails. -/
theorem Vs (L : Nat → Int → Option Bool) (n : Nat) (p : Nat → Bool) (hend : ∀ k, L (k + 1) (n : Int) = some true)
    (hstep : ∀ i, i < n → ∀ k, L (k + 1) (i : Int) = if p i = true then L k ((i + 1 : Nat) : Int) else some false) :
    ∀ d i, i + d = n → Ev (fun k => L k (i : Int)) ((List.range' i d).all p)
  | 0, i, hd => by
    obtain rfl : i = n := by omega
    refine Ev.succ ?_
    simp only [hend]; exact Ev.now _
  | d + 1, i, hd => by
    refine Ev.succ ?_
    rw [List.range'_succ, List.all_cons]
    simp only [hstep i (by omega)]
    cases hp : p i
    · simp only [Bool.false_eq_true, if_false, Bool.false_and]; exact Ev.now _
    · simp only [if_true, Bool.true_and]; exact Vs L n p hend hstep d (i + 1) (by omega)
theorem yT (L : Nat → Int → Option Bool) (n : Nat) (p : Nat → Bool) (hend : ∀ k, L (k + 1) (n : Int) = some true)
    (hstep : ∀ i, i < n → ∀ k, L (k + 1) (i : Int) = if p i = true then L k ((i + 1 : Nat) : Int) else some false) :
    Ev (fun k => L k 0) ((List.range n).all p) := by
  rw [List.range_eq_range']; exact Vs L n p hend hstep n 0 (by omega)
/-- A loop that gathers: at each place the state takes a step; an invariant goes along. -/
theorem J2 {σ ρ : Type} (L : Nat → σ → Int → Option ρ) (n : Nat) (step : σ → Nat → σ) (inv : Nat → σ → Prop) (fin : σ → ρ)
    (hend : ∀ s, inv n s → Ev (fun k => L (k + 1) s (n : Int)) (fin s))
    (hstep : ∀ i s, i < n → inv i s → inv (i + 1) (step s i) ∧ ∀ r, Ev (fun k => L k (step s i) ((i + 1 : Nat) : Int)) r → Ev (fun k => L (k + 1) s (i : Int)) r) :
    ∀ d i s, i + d = n → inv i s → Ev (fun k => L k s (i : Int)) (fin ((List.range' i d).foldl step s))
  | 0, i, s, hd, hi => by
    obtain rfl : i = n := by omega
    exact Ev.succ (hend s hi)
  | d + 1, i, s, hd, hi => by
    refine Ev.succ ?_
    obtain ⟨h1, h2⟩ := hstep i s (by omega) hi
    exact h2 _ (J2 L n step inv fin hend hstep d (i + 1) (step s i) (by omega) h1)
theorem vB {σ ρ : Type} (L : Nat → σ → Int → Option ρ) (n : Nat) (step : σ → Nat → σ) (inv : Nat → σ → Prop) (fin : σ → ρ)
    (hend : ∀ s, inv n s → Ev (fun k => L (k + 1) s (n : Int)) (fin s))
    (hstep : ∀ i s, i < n → inv i s → inv (i + 1) (step s i) ∧ ∀ r, Ev (fun k => L k (step s i) ((i + 1 : Nat) : Int)) r → Ev (fun k => L (k + 1) s (i : Int)) r) (s : σ) (h : inv 0 s) :
    Ev (fun k => L k s 0) (fin ((List.range n).foldl step s)) := by
  rw [List.range_eq_range']; exact J2 L n step inv fin hend hstep n 0 s (by omega) h

/-- A loop that gathers, and what stands behind it. -/
theorem j3 {σ ρ : Type} (L : Nat → σ → Int → Option ρ) (n : Nat) (step : σ → Nat → σ) (inv : Nat → σ → Prop)
    (hstep : ∀ i s, i < n → inv i s → inv (i + 1) (step s i) ∧ ∀ r, Ev (fun k => L k (step s i) ((i + 1 : Nat) : Int)) r → Ev (fun k => L (k + 1) s (i : Int)) r) (s : σ) (h : inv 0 s) :
    inv n ((List.range n).foldl step s) ∧ ∀ r, Ev (fun k => L k ((List.range n).foldl step s) (n : Int)) r → Ev (fun k => L k s 0) r := by
  have key : ∀ d i s, i + d = n → inv i s → inv n ((List.range' i d).foldl step s) ∧ ∀ r, Ev (fun k => L k ((List.range' i d).foldl step s) (n : Int)) r → Ev (fun k => L k s (i : Int)) r := by
    intro d
    induction d with
    | zero => intro i s hd hi; obtain rfl : i = n := by omega
              exact ⟨hi, fun r h => h⟩
    | succ d ih =>
      intro i s hd hi
      obtain ⟨h1, h2⟩ := hstep i s (by omega) hi
      obtain ⟨h3, h4⟩ := ih (i + 1) (step s i) (by omega) h1
      rw [List.range'_succ, List.foldl_cons]
      exact ⟨h3, fun r h => Ev.succ (h2 r (h4 r h))⟩
  rw [List.range_eq_range']
  exact key n 0 s (by omega) h
/-- A loop from its end back: what a place makes of the answer of what follows. -/
theorem jD {ρ : Type} (L : Nat → Int → Option ρ) (n : Nat) (f : Nat → ρ → ρ) (last : ρ) (hend : Ev (fun k => L (k + 1) (n : Int)) last)
    (hstep : ∀ i, i < n → ∀ r, Ev (fun k => L k ((i + 1 : Nat) : Int)) r → Ev (fun k => L (k + 1) (i : Int)) (f i r)) : Ev (fun k => L k 0) ((List.range n).foldr f last) := by
  have key : ∀ d i, i + d = n → Ev (fun k => L k (i : Int)) ((List.range' i d).foldr f last) := by
    intro d
    induction d with
    | zero => intro i hd; obtain rfl : i = n := by omega
              exact Ev.succ hend
    | succ d ih =>
      intro i hd
      rw [List.range'_succ, List.foldr_cons]
      exact Ev.succ (hstep i (by omega) _ (ih (i + 1) (by omega)))
  rw [List.range_eq_range']
  exact key n 0 (by omega)
theorem Qq {α : Type} (p : α → Bool) (r : Bool) : ∀ l : List α, l.foldr (fun i r => p i && r) r = (l.all p && r)
  | [] => by simp
  | a :: l => by rw [List.foldr_cons, List.all_cons, Qq p r l, Bool.and_assoc]
theorem Zt {α : Type} (p : α → Bool) (r : Bool) : ∀ l : List α, l.foldr (fun i r => p i || r) r = (l.any p || r)
  | [] => by simp
  | a :: l => by rw [List.foldr_cons, List.any_cons, Zt p r l, Bool.or_assoc]
theorem jH (l : List Int) (j : Nat) : rd l (j : Int) = l.getD j 0 := by simp [rd]
theorem Jy {α : Type} (l : List α) (d : α) (p : α → Bool) : (List.range l.length).all (fun i => p (l.getD i d)) = l.all p := by
  rw [Bool.eq_iff_iff, List.all_eq_true, List.all_eq_true]
  constructor
  · intro h x hx
    obtain ⟨i, hi, rfl⟩ := List.getElem_of_mem hx
    have := h i (by simpa using hi)
    simpa [List.getElem?_eq_getElem hi] using this
  · intro h i hi
    have hi : i < l.length := by simpa using hi
    have := h l[i] (List.getElem_mem hi)
    simpa [List.getElem?_eq_getElem hi] using this
end Go.Proofs.Yteggmbhcnhbamaa.L
end
section
namespace Go.Proofs.Yteggmbhcnhbamaa.L
open Go.RowKit Go.Proofs.Yteggmbhcnhbamaa.F Go.Proofs.YteggmbhcnhbamaaW.PrintWords Go.Proofs.YteggmbhcnhbamaaW.PrintLast Go.Proofs.YteggmbhcnhbamaaW.PrintMore
open Go.Proofs.Yteggmbhcnhbamaa.Bits
open Go.Proofs.Yteggmbhcnhbamaa.Mt (sdiff qq elems jr)

def ints (l : List Nat) : List Int := l.map fun x : Nat => (x : Int)
theorem Yg (l : List Nat) (j : Nat) (h : j < l.length) : rd (ints l) (j : Int) = ((l[j]'h : Nat) : Int) := by
  simp [rd, ints, List.getElem?_eq_getElem h]
theorem zr (l : List Nat) : (ints l).length = l.length := by simp [ints]
theorem ZS (s : Nat) : (elems s).length ≤ 8 := by
  have := List.length_filter_le s.testBit (List.range 8); simpa [elems] using this
/-- A number that is a set of eight elements. -/
def isAny (s : Int) : Bool := decide (0 ≤ s ∧ s < 256)

theorem Qf (s : Int) : qH.f s = some (isAny s) := by
  unfold qH.f isAny
  split <;> simp <;> omega

theorem zbd (x a b : Int) : qU.f x a b = some (decide (a ≤ x ∧ x ≤ b)) := by
  unfold qU.f
  split <;> simp <;> omega

theorem Vg (n s : Int) : qV.f n s = some (decide (0 ≤ n ∧ n ≤ 8 ∧ 0 ≤ s ∧ s < 2 ^ n.toNat)) := by
  unfold qV.f
  simp only [zbd, Option.bind_some, decide_eq_true_eq]
  split
  · rename_i h
    obtain ⟨m, rfl⟩ := Int.eq_ofNat_of_zero_le h.1
    have hm : m ≤ 8 := by omega
    have hp : (2 : Nat) ^ m ≤ 2 ^ 8 := Nat.pow_le_pow_right (by decide) hm
    rw [vK (by omega) (by omega), vW m (by omega), if_pos (by omega)]
    rw [j9 (by generalize 2 ^ m = x at hp ⊢; omega) (by generalize 2 ^ m = x at hp ⊢; omega)]
    simp only [Int.toNat_natCast, Option.some.injEq, decide_eq_decide]
    have : (2 : Int) ^ m = ((2 ^ m : Nat) : Int) := by simp
    rw [this]
    generalize 2 ^ m = x at hp ⊢
    omega
  · simp; omega

theorem ZU (n : Int) : jb.f n = some (decide (0 ≤ n ∧ n ≤ 8)) := by
  unfold jb.f
  split <;> simp <;> omega
theorem Yt (n s : Int) : ji.f n s = some (decide (0 ≤ n ∧ n ≤ 8 ∧ 0 ≤ s ∧ s < 2 ^ n.toNat)) := by
  unfold ji.f
  rw [ZU]
  simp only [Option.bind_some, decide_eq_true_eq]
  by_cases h : 0 ≤ n ∧ n ≤ 8
  · rw [if_pos h]
    by_cases hs : s ≥ 0
    · rw [if_pos hs, if_pos h.1]
      obtain ⟨m, rfl⟩ := Int.eq_ofNat_of_zero_le h.1
      rw [vW m (by omega)]
      simp only [Int.toNat_natCast, Option.some.injEq, decide_eq_decide]
      have : (2 : Int) ^ m = ((2 ^ m : Nat) : Int) := by simp
      rw [this]
      generalize 2 ^ m = x
      omega
    · rw [if_neg hs]; simp; omega
  · rw [if_neg h]; simp; omega
theorem Vd (s e : Int) : jE.f s e = some (isAny s && decide (0 ≤ e ∧ e < 8) && s.toNat.testBit e.toNat) := by
  unfold jE.f
  rw [Qf]
  simp only [Option.bind_some]
  cases hs : isAny s
  · simp
  · rw [if_pos rfl]
    have hs' : 0 ≤ s ∧ s < 256 := by simpa [isAny] using hs
    by_cases h0 : e ≥ 0
    · rw [if_pos h0]
      by_cases h8 : e < 8
      · obtain ⟨a, rfl⟩ := Int.eq_ofNat_of_zero_le hs'.1
        obtain ⟨b, rfl⟩ := Int.eq_ofNat_of_zero_le h0
        rw [if_pos h8, if_pos h0, Yh _ _ (by omega) (by omega)]
        simp; omega
      · rw [if_neg h8]; simp; omega
    · rw [if_neg h0]; simp; omega

/-- The elements of a number: none where it is no set. -/
def Jo (s : Int) : List Nat := if isAny s then elems s.toNat else []

theorem ZN (s : Int) (L : Nat → List Int → Int → Option (List Int))
    (hL : ∀ k (acc : List Int) (i : Nat), L (k + 1) acc i = if (i : Int) < 8 then (if (isAny s && decide (0 ≤ (i : Int) ∧ (i : Int) < 8) && s.toNat.testBit (i : Int).toNat) = true then (if acc.length < 17592186044416 then L k (acc ++ [(i : Int)]) (wrap64 ((i : Int) + 1)) else none) else L k acc (wrap64 ((i : Int) + 1))) else some acc) :
    ∀ (d i : Nat) (acc : List Int), i + d = 8 → acc.length ≤ i → Ev (fun k => L k acc i) (acc ++ ints ((List.range' i d).filter fun e => isAny s && s.toNat.testBit e))
  | 0, i, acc, hd, _ => by
    obtain rfl : i = 8 := by omega
    refine Ev.succ ?_
    simp only [hL, show ¬ (((8 : Nat) : Int) < 8) by decide, if_false]
    simpa [ints] using Ev.now acc
  | d + 1, i, acc, hd, ha => by
    refine Ev.succ ?_
    have h8 : (i : Int) < 8 := by omega
    have hw : wrap64 ((i : Int) + 1) = ((i + 1 : Nat) : Int) := j9 (by omega) (by omega)
    simp only [hL, h8, hw, if_true, Int.toNat_natCast, Int.natCast_nonneg, decide_true, Bool.and_true, and_self]
    rw [List.range'_succ]
    cases hb : (isAny s && s.toNat.testBit i)
    · simp only [hb, List.filter_cons, Bool.false_eq_true, if_false]
      exact ZN s L hL d (i + 1) acc (by omega) (by omega)
    · simp only [hb, List.filter_cons, if_true, show acc.length < 17592186044416 by omega]
      have := ZN s L hL d (i + 1) (acc ++ [(i : Int)]) (by omega) (by simp; omega)
      simpa [ints] using this

theorem YG (s : Int) : (List.range' 0 8).filter (fun e => isAny s && s.toNat.testBit e) = Jo s := by
  unfold Jo elems
  rw [List.range_eq_range']
  cases isAny s <;> simp

theorem Qc (s : Int) : Ev (fun k => qb.f k s) (ints (Jo s)) := by
  have := ZN s (fun k acc i => qb.l0 k s acc i) (fun k acc i => by simp only [qb.l0, Vd, Option.bind_some]) 8 0 [] rfl (by simp)
  rw [YG] at this
  simpa [qb.f] using this

end Go.Proofs.Yteggmbhcnhbamaa.L
end
section
namespace Go.Proofs.Yteggmbhcnhbamaa.Mt
theorem jZ (a b i : Nat) : (a ||| b).testBit i = (a.testBit i || b.testBit i) := Nat.testBit_or a b i
theorem jv (a b i : Nat) : (a &&& b).testBit i = (a.testBit i && b.testBit i) := Nat.testBit_and a b i
theorem yC (e i : Nat) : (2 ^ e).testBit i = decide (e = i) := by
  rw [Nat.testBit_two_pow]
theorem vn (i : Nat) : (0 : Nat).testBit i = false := Nat.zero_testBit i
theorem ext {a b : Nat} (h : ∀ i, a.testBit i = b.testBit i) : a = b := Nat.eq_of_testBit_eq h
/-- s with e; s without e. -/
def ins (s e : Nat) : Nat := s ||| 2 ^ e
def del (s e : Nat) : Nat := sdiff s (2 ^ e)
theorem jk (s e i : Nat) : (ins s e).testBit i = (s.testBit i || decide (e = i)) := by rw [ins, jZ, yC]
theorem jj (s e i : Nat) : (del s e).testBit i = (s.testBit i && !decide (e = i)) := by rw [del, qq, yC]
def sub (a b : Nat) : Prop := ∀ i, a.testBit i = true → b.testBit i = true
theorem yo (a : Nat) : sub a a := fun _ h => h
theorem jV {a b c : Nat} (h : sub a b) (k : sub b c) : sub a c := fun i hi => k i (h i hi)
theorem yi {a b : Nat} (h : sub a b) (k : sub b a) : a = b := ext fun i => by
  have h1 := h i; have h2 := k i
  cases ha : a.testBit i <;> cases hb : b.testBit i <;> simp_all
theorem qv {a b : Nat} : sub a b ↔ a &&& b = a := by
  constructor
  · intro h; apply ext; intro i; rw [jv]; have := h i; cases ha : a.testBit i <;> simp_all
  · intro h i hi; have := congrArg (fun x => Nat.testBit x i) h; simp only [jv, hi, Bool.true_and] at this; exact this
theorem vt {a b : Nat} : sub a b ↔ sdiff a b = 0 := by
  constructor
  · intro h; apply ext; intro i; rw [qq, vn]; have := h i; cases ha : a.testBit i <;> simp_all
  · intro h i hi
    have := congrArg (fun x => Nat.testBit x i) h
    simp only [qq, hi, vn, Bool.true_and, Bool.not_eq_false'] at this; exact this
theorem Zh (s e : Nat) : sub s (ins s e) := fun i hi => by rw [jk, hi, Bool.true_or]
theorem zaN (s e : Nat) : (ins s e).testBit e = true := by simp [jk]
theorem yB (s e : Nat) : sub (del s e) s := fun i hi => by rw [jj] at hi; simp at hi; exact hi.1
theorem jR (a b : Nat) : sub (a &&& b) a := fun i hi => by rw [jv] at hi; simp at hi; exact hi.1
theorem vy (a b : Nat) : sub (a &&& b) b := fun i hi => by rw [jv] at hi; simp at hi; exact hi.2
theorem VP (a b : Nat) : sub a (a ||| b) := fun i hi => by rw [jZ, hi, Bool.true_or]
theorem Vp (a b : Nat) : sub b (a ||| b) := fun i hi => by rw [jZ, hi, Bool.or_true]
theorem Yl {a b c : Nat} (h : sub c a) (k : sub c b) : sub c (a &&& b) := fun i hi => by rw [jv, h i hi, k i hi]; rfl
theorem Y2 {s e : Nat} (h : s.testBit e = true) : ins s e = s := ext fun i => by
  rw [jk]; by_cases he : e = i
  · subst he; simp [h]
  · simp [he]
theorem QO {a b : Nat} (h : ¬ sub a b) : ∃ i, a.testBit i = true ∧ b.testBit i = false := by
  apply Classical.byContradiction
  intro hn; apply h; intro i hi
  cases hb : b.testBit i
  · exact absurd ⟨i, hi, hb⟩ hn
  · rfl
theorem jY {s n i : Nat} (h : s < 2 ^ n) (hi : s.testBit i = true) : i < n := by
  rcases Nat.lt_or_ge i n with h' | h'
  · exact h'
  · rw [Nat.testBit_lt_two_pow (Nat.lt_of_lt_of_le h (Nat.pow_le_pow_right (by decide) h'))] at hi; cases hi
theorem yZ {s n : Nat} (h : ∀ i, s.testBit i = true → i < n) : s < 2 ^ n := Nat.lt_pow_two_of_testBit s fun i hi => by
  cases hb : s.testBit i
  · rfl
  · have := h i hb; omega
theorem ju {a b n : Nat} (h : sub a b) (hb : b < 2 ^ n) : a < 2 ^ n := yZ fun i hi => jY hb (h i hi)
theorem YD {a b : Nat} (h : sub a b) : a ≤ b := by rw [qv] at h; rw [← h]; exact Nat.and_le_right
/-- All elements below n. -/
def full (n : Nat) : Nat := 2 ^ n - 1
theorem Q3 (n i : Nat) : (full n).testBit i = decide (i < n) := Nat.testBit_two_pow_sub_one n i
theorem zaZ (n : Nat) : full n < 2 ^ n := Nat.sub_lt (Nat.two_pow_pos n) (by decide)
theorem Qd {s n : Nat} (h : s < 2 ^ n) : sub s (full n) := fun i hi => by rw [Q3]; exact decide_eq_true (jY h hi)
def cnt (s : Nat) : Nat := (List.range 8).countP s.testBit
theorem ZD (p q : Nat → Bool) : ∀ l : List Nat, l.countP (fun i => p i || q i) + l.countP (fun i => p i && q i) = l.countP p + l.countP q
  | [] => rfl
  | a :: l => by
    have := ZD p q l
    simp only [List.countP_cons]
    cases p a <;> cases q a <;> simp <;> omega
theorem ZK (a b : Nat) : cnt (a ||| b) + cnt (a &&& b) = cnt a + cnt b := by
  have := ZD a.testBit b.testBit (List.range 8)
  simp only [cnt]
  rw [show Nat.testBit (a ||| b) = fun i => a.testBit i || b.testBit i from funext (jZ a b), show Nat.testBit (a &&& b) = fun i => a.testBit i && b.testBit i from funext (jv a b)]
  exact this
theorem vv {a b : Nat} (h : sub a b) : cnt a ≤ cnt b := List.countP_mono_left fun i _ hi => h i hi
theorem Z9 : cnt 0 = 0 := by decide
theorem Qr (s : Nat) : cnt s ≤ 8 := by have := List.countP_le_length (p := s.testBit) (l := List.range 8); simpa [cnt] using this
theorem Z3 {a b : Nat} (h : a &&& b = 0) : cnt (a ||| b) = cnt a + cnt b := by have := ZK a b; rw [h, Z9] at this; omega
theorem QN {e : Nat} (h : e < 8) : cnt (2 ^ e) = 1 := by
  have : ∀ e, e < 8 → cnt (2 ^ e) = 1 := by decide
  exact this e h
theorem Zi (a b : Nat) : cnt (sdiff a b) + cnt (a &&& b) = cnt a := by
  have h : sdiff a b &&& (a &&& b) = 0 := ext fun i => by simp only [jv, qq, vn]; cases a.testBit i <;> cases b.testBit i <;> rfl
  have k : sdiff a b ||| (a &&& b) = a := ext fun i => by simp only [jZ, jv, qq]; cases a.testBit i <;> cases b.testBit i <;> rfl
  rw [← Z3 h, k]
theorem yQ {a b : Nat} (h : sub b a) : cnt (sdiff a b) + cnt b = cnt a := by
  have := Zi a b
  rwa [show a &&& b = b from by rw [Nat.and_comm]; exact qv.1 h] at this
theorem ZX {s e : Nat} (he : e < 8) (h : s.testBit e = false) : cnt (ins s e) = cnt s + 1 := by
  have : s &&& 2 ^ e = 0 := ext fun i => by
    rw [jv, yC, vn]; by_cases hi : e = i
    · subst hi; simp [h]
    · simp [hi]
  rw [ins, Z3 this, QN he]
theorem y1 {s e : Nat} (he : e < 8) (h : s.testBit e = true) : cnt (del s e) + 1 = cnt s := by
  have k : ins (del s e) e = s := ext fun i => by
    rw [jk, jj]; by_cases hi : e = i
    · subst hi; simp [h]
    · simp [hi]
  have := ZX (s := del s e) he (by simp [jj])
  rw [k] at this; omega
theorem zaE {s e : Nat} (he : e < 8) (h : s.testBit e = true) : 0 < cnt s := by have := y1 he h; omega
theorem Jq {s : Nat} (hs : s < 256) (h : cnt s = 0) : s = 0 := by
  apply ext; intro i; rw [vn]
  cases hb : s.testBit i
  · rfl
  · have := zaE (jY (n := 8) hs hb) hb; omega
theorem yq {a b : Nat} (ha : a < 256) (h : cnt (a &&& b) = cnt a) : sub a b := by
  have := Zi a b
  have hz : cnt (sdiff a b) = 0 := by omega
  exact vt.2 (Jq (ju (n := 8) (fun i hi => by rw [qq] at hi; simp at hi; exact hi.1) ha) hz)
theorem JK {a b : Nat} (h : sub a b) (hb : b < 256) (hc : cnt b ≤ cnt a) : a = b := by
  refine yi h (yq hb ?_)
  have h1 := vv (jR b a)
  have : b &&& a = a := by rw [Nat.and_comm]; exact qv.1 h
  rw [this]; have := vv h; omega
theorem yE {a b : Nat} (h : cnt b < cnt a) : ∃ i, a.testBit i = true ∧ b.testBit i = false :=
  QO fun k => by have := vv k; omega

/-- The bases of a matroid of n elements: by exchange. -/
structure Mat (n : Nat) (B : List Nat) : Prop where
  size : n ≤ 8
  lt : ∀ b ∈ B, b < 2 ^ n
  ne : B ≠ []
  ex : ∀ a ∈ B, ∀ b ∈ B, ∀ e, a.testBit e = true → b.testBit e = false → ∃ f, b.testBit f = true ∧ a.testBit f = false ∧ ins (del a e) f ∈ B
section
variable {n : Nat} {B : List Nat}
theorem jc {s n : Nat} (hn : n ≤ 8) (h : s < 2 ^ n) : s < 256 := Nat.lt_of_lt_of_le h (Nat.pow_le_pow_right (n := 2) (by decide) hn)
theorem Mat.lt8 (M : Mat n B) {b : Nat} (h : b ∈ B) : b < 256 := jc M.size (M.lt b h)
theorem Mat.VZ (M : Mat n B) {b e : Nat} (h : b ∈ B) (he : b.testBit e = true) : e < 8 := jY (n := 8) (M.lt8 h) he
theorem zaj {a e f : Nat} (ha : a < 256) (hf8 : f < 8) (he : a.testBit e = true) (hf : a.testBit f = false) : cnt (ins (del a e) f) = cnt a := by
  have h8 : e < 8 := jY (n := 8) ha he
  have h1 := y1 h8 he
  have h2 := ZX (s := del a e) hf8 (by rw [jj, hf]; rfl)
  omega
theorem Mat.le (M : Mat n B) : ∀ k a b, a ∈ B → b ∈ B → cnt (sdiff a b) = k → cnt a ≤ cnt b := by
  intro k
  induction k using Nat.strongRecOn with
  | _ k ih =>
    intro a b ha hb hk
    by_cases hs : sub a b
    · exact vv hs
    · obtain ⟨e, he, heb⟩ := QO hs
      obtain ⟨f, hfb, hfa, hin⟩ := M.ex a ha b hb e he heb
      have e8 := M.VZ ha he
      have f8 := M.VZ hb hfb
      have hsw := zaj (M.lt8 ha) f8 he hfa
      have hd : sdiff (ins (del a e) f) b = del (sdiff a b) e := ext fun i => by
        simp only [qq, jk, jj]
        by_cases hi : f = i
        · subst hi; simp [hfb]
        · simp only [hi, decide_false, Bool.or_false]; cases a.testBit i <;> cases b.testBit i <;> simp
      have hc := y1 (s := sdiff a b) e8 (by rw [qq, he, heb]; rfl)
      have := ih (cnt (del (sdiff a b) e)) (by omega) (ins (del a e) f) b hin hb (by rw [hd])
      omega
/-- All bases are of one size. -/
theorem Mat.VW (M : Mat n B) {a b : Nat} (ha : a ∈ B) (hb : b ∈ B) : cnt a = cnt b := Nat.le_antisymm (M.le _ a b ha hb rfl) (M.le _ b a hb ha rfl)

/-- The rank of s: the most that a base has of it. -/
def rk (B : List Nat) (s : Nat) : Nat := B.foldl (fun m b => max m (cnt (s &&& b))) 0
theorem Z5 {α : Type} (f : α → Nat) : ∀ (l : List α) (m k : Nat), l.foldl (fun m b => max m (f b)) m ≤ k ↔ m ≤ k ∧ ∀ b ∈ l, f b ≤ k
  | [], m, k => by simp
  | a :: l, m, k => by
    rw [List.foldl_cons, Z5 f l]
    simp only [List.mem_cons, forall_eq_or_imp, Nat.max_le, and_assoc]
theorem JV {s k : Nat} : rk B s ≤ k ↔ ∀ b ∈ B, cnt (s &&& b) ≤ k := by
  unfold rk; rw [Z5 (fun b => cnt (s &&& b))]; simp
theorem J3 {b : Nat} (hb : b ∈ B) (s : Nat) : cnt (s &&& b) ≤ rk B s := JV.1 (Nat.le_refl _) b hb
theorem zaA (hB : B ≠ []) (s : Nat) : ∃ b ∈ B, cnt (s &&& b) = rk B s := by
  apply Classical.byContradiction
  intro h
  have h1 : ∀ b ∈ B, cnt (s &&& b) < rk B s := fun b hb => Nat.lt_of_le_of_ne (J3 hb s) fun e => h ⟨b, hb, e⟩
  obtain ⟨c, hc⟩ := List.exists_mem_of_ne_nil B hB
  have h2 : rk B s ≤ rk B s - 1 := JV.2 fun b hb => by have := h1 b hb; omega
  have := h1 c hc
  omega
theorem Qj (s : Nat) : rk B s ≤ cnt s := JV.2 fun _ _ => vv (jR _ _)
theorem jT {s t : Nat} (h : sub s t) : rk B s ≤ rk B t := JV.2 fun b hb => Nat.le_trans (vv (fun i hi => by
  rw [jv] at hi ⊢; simp at hi ⊢; exact ⟨h i hi.1, hi.2⟩)) (J3 hb t)
theorem Mat.QS (M : Mat n B) {b : Nat} (hb : b ∈ B) {s : Nat} (hs : sub (full n) s) : rk B s = cnt b := by
  apply Nat.le_antisymm
  · exact JV.2 fun c hc => by rw [M.VW hb hc]; exact vv (vy _ _)
  · have := J3 hb s
    have h2 : s &&& b = b := by rw [Nat.and_comm]; exact qv.1 (jV (Qd (M.lt b hb)) hs)
    rwa [h2] at this
/-- A set within a base. -/
def ind (B : List Nat) (s : Nat) : Prop := ∃ b ∈ B, sub s b
theorem yv {s t : Nat} (h : sub s t) (k : ind B t) : ind B s := by obtain ⟨b, hb, hs⟩ := k; exact ⟨b, hb, jV h hs⟩
theorem yh (hB : B ≠ []) {s : Nat} (hs : s < 256) : ind B s ↔ rk B s = cnt s := by
  constructor
  · rintro ⟨b, hb, h⟩
    have := J3 hb s
    rw [qv.1 h] at this
    exact Nat.le_antisymm (Qj s) this
  · intro h
    obtain ⟨b, hb, hc⟩ := zaA hB s
    exact ⟨b, hb, yq hs (by omega)⟩
/-- What is within a base grows to a base by elements of any other. -/
theorem Mat.grow (M : Mat n B) {I c : Nat} (hI : ind B I) (hc : c ∈ B) : ∃ b ∈ B, sub I b ∧ sub b (I ||| c) := by
  obtain ⟨b0, hb0, hs0⟩ := hI
  have key : ∀ k b, b ∈ B → sub I b → cnt (sdiff b (I ||| c)) = k → ∃ b ∈ B, sub I b ∧ sub b (I ||| c) := by
    intro k
    induction k using Nat.strongRecOn with
    | _ k ih =>
      intro b hb hs hk
      by_cases hh : sub b (I ||| c)
      · exact ⟨b, hb, hs, hh⟩
      · obtain ⟨e, he, hn⟩ := QO hh
        rw [jZ] at hn
        have hn' := Bool.or_eq_false_iff.1 hn
        obtain ⟨f, hfc, hfb, hin⟩ := M.ex b hb c hc e he hn'.2
        have hd : sdiff (ins (del b e) f) (I ||| c) = del (sdiff b (I ||| c)) e := ext fun i => by
          simp only [qq, jk, jj, jZ]
          by_cases hi : f = i
          · subst hi; simp [hfc]
          · simp only [hi, decide_false, Bool.or_false]; cases b.testBit i <;> cases I.testBit i <;> cases c.testBit i <;> simp
        have h1 := y1 (s := sdiff b (I ||| c)) (M.VZ hb he) (by rw [qq, he, jZ, hn]; rfl)
        refine ih _ (by rw [hd]; omega) _ hin (fun i hi => ?_) rfl
        rw [jk, jj, hs i hi]
        have : e ≠ i := fun h => by subst h; rw [hi] at hn'; exact absurd hn'.1 (by simp)
        simp [this]
  exact key _ b0 hb0 hs0 rfl
/-- The smaller of two independent sets takes an element of the greater. -/
theorem Mat.zaY (M : Mat n B) {I J : Nat} (hI : ind B I) (hJ : ind B J) (h : cnt I < cnt J) : ∃ x, J.testBit x = true ∧ I.testBit x = false ∧ ind B (ins I x) := by
  obtain ⟨c, hc, hJc⟩ := hJ
  obtain ⟨b, hb, hIb, hbc⟩ := M.grow hI hc
  apply Classical.byContradiction
  intro hn
  have h1 : sub (b &&& J) I := fun i hi => by
    rw [jv] at hi; simp at hi
    cases hx : I.testBit i
    · exact absurd ⟨i, hi.2, hx, b, hb, fun j hj => by
        rw [jk] at hj; rcases Bool.or_eq_true_iff.1 hj with hj | hj
        · exact hIb j hj
        · rw [← of_decide_eq_true hj]; exact hi.1⟩ hn
    · rfl
  -- b without I lies in c without J
  have h2 : sub (sdiff b I) (sdiff c J) := fun i hi => by
    rw [qq] at hi ⊢; simp at hi
    have h3 := hbc i hi.1
    rw [jZ, hi.2, Bool.false_or] at h3
    rw [h3, Bool.true_and]
    cases hj : J.testBit i
    · rfl
    · have := h1 i (by rw [jv, hi.1, hj]; rfl); rw [hi.2] at this; cases this
  have c1 := vv h2
  have c2 := yQ hIb
  have c3 := yQ hJc
  have c4 := M.VW hb hc
  omega
/-- An independent part of s that is as1 great as1 its rank, around any independent part of s. -/
theorem Mat.ZZ (M : Mat n B) {s I : Nat} (hs : s < 256) (hI : ind B I) (hIs : sub I s) : ∃ J, ind B J ∧ sub I J ∧ sub J s ∧ cnt J = rk B s := by
  obtain ⟨b, hb, hc⟩ := zaA M.ne s
  have hJ0 : ind B (s &&& b) := ⟨b, hb, vy _ _⟩
  have key : ∀ k I, ind B I → sub I s → rk B s - cnt I = k → ∃ J, ind B J ∧ sub I J ∧ sub J s ∧ cnt J = rk B s := by
    intro k
    induction k with
    | zero =>
      intro I hI hIs hk
      have h1 : cnt I ≤ rk B s := by rw [← (yh M.ne (ju (n := 8) hIs hs)).1 hI]; exact jT hIs
      exact ⟨I, hI, yo _, hIs, by omega⟩
    | succ k ih =>
      intro I hI hIs hk
      obtain ⟨x, hx, hxI, hin⟩ := M.zaY hI hJ0 (by omega)
      have hxs : s.testBit x = true := jR _ _ x hx
      have h8 : x < 8 := jY (n := 8) hs hxs
      have h1 := ZX h8 hxI
      have hsub : sub (ins I x) s := fun i hi => by
        rw [jk] at hi; rcases Bool.or_eq_true_iff.1 hi with hi | hi
        · exact hIs i hi
        · rw [← of_decide_eq_true hi]; exact hxs
      obtain ⟨J, h2, h3, h4, h5⟩ := ih (ins I x) hin hsub (by omega)
      exact ⟨J, h2, jV (Zh I x) h3, h4, h5⟩
  exact key _ I hI hIs rfl
theorem QV (hB : B ≠ []) : ind B 0 := by
  obtain ⟨c, hc⟩ := List.exists_mem_of_ne_nil B hB
  exact ⟨c, hc, fun i hi => by rw [vn] at hi; cases hi⟩
theorem YA {s e : Nat} (he : e < 8) : rk B (ins s e) ≤ rk B s + 1 := JV.2 fun b hb => by
  have h1 := J3 hb s
  have h2 : cnt (ins s e &&& b) ≤ cnt (s &&& b) + 1 := by
    have h3 : sub (ins s e &&& b) ((s &&& b) ||| 2 ^ e) := fun i hi => by
      rw [jv, jk] at hi; rw [jZ, jv, yC]; revert hi; cases s.testBit i <;> cases b.testBit i <;> simp
    have h4 := vv h3
    have h5 := ZK (s &&& b) (2 ^ e)
    rw [QN he] at h5; omega
  omega
/-- The rank of what is gathered and of what is common: no more than both together. -/
theorem Mat.zbo (M : Mat n B) {s t : Nat} (hs : s < 256) (ht : t < 256) : rk B (s ||| t) + rk B (s &&& t) ≤ rk B s + rk B t := by
  have hst : s ||| t < 256 := Nat.or_lt_two_pow (n := 8) hs ht
  have hand : s &&& t < 256 := Nat.and_lt_two_pow (n := 8) _ ht
  obtain ⟨I, hI, _, hIs, hIc⟩ := M.ZZ hand (QV M.ne) (fun i hi => by rw [vn] at hi; cases hi)
  obtain ⟨J, hJ, hIJ, hJs, hJc⟩ := M.ZZ hst hI (jV hIs (jV (jR _ _) (VP _ _)))
  have h1 : ind B (J &&& s) := yv (jR _ _) hJ
  have h2 : ind B (J &&& t) := yv (jR _ _) hJ
  have hJ8 : J < 256 := ju (n := 8) hJs hst
  have c1 : cnt (J &&& s) ≤ rk B s := by
    rw [← (yh M.ne (ju (n := 8) (jR _ _) hJ8)).1 h1]; exact jT (vy _ _)
  have c2 : cnt (J &&& t) ≤ rk B t := by
    rw [← (yh M.ne (ju (n := 8) (jR _ _) hJ8)).1 h2]; exact jT (vy _ _)
  have c3 := ZK (J &&& s) (J &&& t)
  have e1 : J &&& s ||| J &&& t = J := ext fun i => by
    rw [jZ, jv, jv]; have := hJs i; rw [jZ] at this
    revert this
    cases J.testBit i <;> cases s.testBit i <;> cases t.testBit i <;> simp
  have e2 : sub I (J &&& s &&& (J &&& t)) := fun i hi => by
    have a := hIJ i hi; have b := hIs i hi; rw [jv] at b; simp at b
    simp [a, b]
  have c4 := vv e2
  rw [e1] at c3
  omega
end
end Go.Proofs.Yteggmbhcnhbamaa.Mt
end
section
namespace Go.Proofs.Yteggmbhcnhbamaa.L
open Go.RowKit Go.Proofs.Yteggmbhcnhbamaa.F Go.Proofs.YteggmbhcnhbamaaW.PrintWords Go.Proofs.YteggmbhcnhbamaaW.PrintLast Go.Proofs.YteggmbhcnhbamaaW.PrintMore
open Go.Proofs.Yteggmbhcnhbamaa.Bits
open Go.Proofs.Yteggmbhcnhbamaa.Mt (qv vt)
theorem Qo {a : Nat} (ha : a < 256) : isAny (a : Int) = true := by simp [isAny]; omega
theorem yX {a b : Nat} (ha : a < 256) (hb : b < 256) : je.f (a : Int) (b : Int) = some (decide (a &&& b = a)) := by
  unfold je.f
  rw [Qf, Qf]
  simp only [Qo ha, Qo hb, Option.bind_some, if_true, yb a b (by omega) (by omega)]
  rw [Option.some.injEq, Bool.eq_iff_iff, beq_iff_eq, decide_eq_true_eq, ← qv, vt]
  omega
end Go.Proofs.Yteggmbhcnhbamaa.L
end
section
namespace Go.Proofs.Yteggmbhcnhbamaa.F
open Go.RowKit Go.Proofs.YteggmbhcnhbamaaW.PrintWords Go.Proofs.YteggmbhcnhbamaaW.PrintLast Go.Proofs.YteggmbhcnhbamaaW.PrintMore
attribute [local go_sem] qJ qM q2 q4 qy qx qL qK   -- for this text's walks alone
set_option linter.unusedVariables false
set_option linter.unusedSimpArgs false

def Je.f (k : Nat) (a0_0 : Int) (l0_1 : List Int) (a1 : Int) : Option (Bool) := (zZ.f k a0_0 l0_1).bind fun t454 => (if t454 = true then ((ji.f a0_0 a1).bind fun t455 => (some t455)) else (some false))
theorem Je.calls (k : Nat) (a0_0 : Int) (A0_1 : Option Addr) (c0_1 : Nat) (l0_1 : List Int) (a1 : Int) (r : Bool) (w : World) (hr0_1 : Kd.C (Kd.int .i64) w A0_1 l0_1.length l0_1) (hc0_1 : l0_1.length ≤ c0_1) (h : Je.f k a0_0 l0_1 a1 = some r) :
  Calls Try.prog 100 #[.agg #[.int .i64 a0_0, .slice A0_1 l0_1.length c0_1], .int .i64 a1] w fun e w' => e = .returned (.bool r) ∧ Below w.heap.size w w' := by
 have hu27 := Try.underlying27
 have HR0_1 := Aside0.mk hr0_1
 have HC0_1 := Aside0.mk hc0_1
 clear hr0_1 hc0_1
 have HB := Aside0.mk (Below.refl w.heap.size w)
 have H : ((zZ.f k a0_0 l0_1).bind fun t454 => (if t454 = true then ((ji.f a0_0 a1).bind fun t455 => (some t455)) else (some false))) = some r := h
 clear h
 replace H := Option.bind_eq_some_iff.mp H
 obtain ⟨t454, A30, H⟩ := H
 replace H : (if t454 = true then ((ji.f a0_0 a1).bind fun t455 => (some t455)) else (some false)) = some r := H
 have A3 := Aside0.mk A30
 clear A30
 by_cases c4 : t454 = true
 ·subst c4
  have H1 : ((ji.f a0_0 a1).bind fun t455 => (some t455)) = some r := by rw [if_pos rfl] at H; exact H
  clear H
  have H := H1
  clear H1
  replace H := Option.bind_eq_some_iff.mp H
  obtain ⟨t455, A50, H⟩ := H
  replace H : (some t455) = some r := H
  have A5 := Aside0.mk A50
  clear A50
  obtain rfl := Option.some.inj H
  go_enter Try.func100, Try.ntmps100
  go_wp2_with (first | ((with_reducible refine zi (N := 2) rfl ?_); refine zl ?hg (N := 2) ?hd (cs := #[.int .i64 a0_0, .slice A0_1 l0_1.length c0_1]) (t := 27) ?hr ?_; (case hd => rfl); (case hg => rfl); (case hr => exact sqG); intro gb453 hg w6 hbox hb; have n0_ := Aside0.mk (zc sqB hb); have n1_ := Aside0.mk (hbox); have n2_ := Aside0.mk ((sqS hg : w.heap.size ≤ gb453)); have n3_ := Aside0.mk ((sqS hg : w.heap.size ≤ gb453)); clear HB; have HB := n0_; have BK453 := n1_; have GW453 := n2_; have GE453 := n3_; clear n0_ n1_ n2_ n3_; clear hb hbox hg; have hcz7_0 : w6.cell? ⟨gb453, 0, none⟩ = some (.int .i64 a0_0) := (zb BK453.out 0).trans rfl; have hcz7_1 : w6.cell? ⟨gb453, 1, none⟩ = some (.slice A0_1 l0_1.length c0_1) := (zb BK453.out 1).trans rfl; have hfz7_0 := za BK453.out 0; have hfz7_1 := za BK453.out 1) | ((with_reducible refine zd (f := 42) rfl ?_); refine zn (some 6) rfl rfl Try.func42 (by kernel_rfl) rfl #[.agg #[.int .i64 a0_0, .slice A0_1 l0_1.length c0_1]] rfl sqM ?_; (with_reducible refine (zZ.calls k a0_0 _ _ l0_1 true _ ?side1 ?side2 A3.out).mono ?_); (case side1 => exact sqC (Kd.zp HR0_1.out HB.out)); (case side2 => exact HC0_1.out); rintro e w8 ⟨rfl, hb⟩; refine ⟨_, rfl, ?_⟩; have n0_ := Aside0.mk (ze (g := gb453) (o := .cells #[.int .i64 a0_0, .slice A0_1 l0_1.length c0_1] 27 (0, 0)) (sqK BK453.out) hb); have n1_ := Aside0.mk (zc sqB hb); clear BK453; clear HB; have BK453 := n0_; have HB := n1_; clear n0_ n1_; (try clear hb); (try clear hb2); (try clear hk); (try clear hi); have hcz9_0 : w8.cell? ⟨gb453, 0, none⟩ = some (.int .i64 a0_0) := (zb BK453.out 0).trans rfl; have hcz9_1 : w8.cell? ⟨gb453, 1, none⟩ = some (.slice A0_1 l0_1.length c0_1) := (zb BK453.out 1).trans rfl; have hfz9_0 := za BK453.out 0; have hfz9_1 := za BK453.out 1) | (go_at_call 89; (try simp only [zj, zo]); (with_reducible refine (ji.calls a0_0 a1 t455 _ A5.out).mono ?_); rintro e w' ⟨rfl, ⟨nd, rfl⟩⟩))
  go_ret
  exact ⟨sqE, sqB⟩
 ·replace c4 := Bool.eq_false_iff.mpr c4
  subst c4
  have H1 : (some false) = some r := by rw [if_neg (show ¬ (false = true) by decide)] at H; exact H
  clear H
  have H := H1
  clear H1
  obtain rfl := Option.some.inj H
  go_enter Try.func100, Try.ntmps100
  go_wp2_with (first | ((with_reducible refine zi (N := 2) rfl ?_); refine zl ?hg (N := 2) ?hd (cs := #[.int .i64 a0_0, .slice A0_1 l0_1.length c0_1]) (t := 27) ?hr ?_; (case hd => rfl); (case hg => rfl); (case hr => exact sqG); intro gb453 hg w10 hbox hb; have n0_ := Aside0.mk (zc sqB hb); have n1_ := Aside0.mk (hbox); have n2_ := Aside0.mk ((sqS hg : w.heap.size ≤ gb453)); have n3_ := Aside0.mk ((sqS hg : w.heap.size ≤ gb453)); clear HB; have HB := n0_; have BK453 := n1_; have GW453 := n2_; have GE453 := n3_; clear n0_ n1_ n2_ n3_; clear hb hbox hg; have hcz11_0 : w10.cell? ⟨gb453, 0, none⟩ = some (.int .i64 a0_0) := (zb BK453.out 0).trans rfl; have hcz11_1 : w10.cell? ⟨gb453, 1, none⟩ = some (.slice A0_1 l0_1.length c0_1) := (zb BK453.out 1).trans rfl; have hfz11_0 := za BK453.out 0; have hfz11_1 := za BK453.out 1) | ((with_reducible refine zd (f := 42) rfl ?_); refine zn (some 6) rfl rfl Try.func42 (by kernel_rfl) rfl #[.agg #[.int .i64 a0_0, .slice A0_1 l0_1.length c0_1]] rfl sqM ?_; (with_reducible refine (zZ.calls k a0_0 _ _ l0_1 false _ ?side1 ?side2 A3.out).mono ?_); (case side1 => exact sqC (Kd.zp HR0_1.out HB.out)); (case side2 => exact HC0_1.out); rintro e w12 ⟨rfl, hb⟩; refine ⟨_, rfl, ?_⟩; have n0_ := Aside0.mk (ze (g := gb453) (o := .cells #[.int .i64 a0_0, .slice A0_1 l0_1.length c0_1] 27 (0, 0)) (sqK BK453.out) hb); have n1_ := Aside0.mk (zc sqB hb); clear BK453; clear HB; have BK453 := n0_; have HB := n1_; clear n0_ n1_; (try clear hb); (try clear hb2); (try clear hk); (try clear hi)))
  go_ret
  exact ⟨sqE, sqB⟩

end Go.Proofs.Yteggmbhcnhbamaa.F
end
section
namespace Go.Proofs.Yteggmbhcnhbamaa.L
open Go.RowKit Go.Proofs.Yteggmbhcnhbamaa.F Go.Proofs.YteggmbhcnhbamaaW.PrintWords Go.Proofs.YteggmbhcnhbamaaW.PrintLast Go.Proofs.YteggmbhcnhbamaaW.PrintMore
open Go.Proofs.Yteggmbhcnhbamaa.Bits
open Go.Proofs.Yteggmbhcnhbamaa.Mt (sdiff qq elems jr cnt Qr full)
set_option linter.unusedSimpArgs false
set_option linter.unusedVariables false
theorem J1 (l : List Int) (x : Int) : ((List.range l.length).any fun i => decide (l.getD i 0 = x)) = decide (x ∈ l) := by
  rw [Bool.eq_iff_iff]
  simp only [List.any_eq_true, List.mem_range, decide_eq_true_eq]
  constructor
  · rintro ⟨i, hi, h⟩
    rw [← h, List.getD_eq_getElem?_getD, List.getElem?_eq_getElem hi]; exact List.getElem_mem hi
  · intro h
    obtain ⟨i, hi, he⟩ := List.getElem_of_mem h
    exact ⟨i, hi, by rw [List.getD_eq_getElem?_getD, List.getElem?_eq_getElem hi]; exact he⟩
theorem zac (l : List Int) (x : Int) (hl : l.length ≤ 17592186044416) : Ev (fun k => qE.f k l x) (decide (x ∈ l)) := by
  unfold qE.f
  have h := jD (fun k i => qE.l0 k l x i) l.length (fun i r => decide (l.getD i 0 = x) || r) false
    (by simp only [qE.l0, show ¬ ((l.length : Int) < (l.length : Int)) by omega, if_false]; exact Ev.now _) fun i hi r hr => by
      simp only [qE.l0, show ((i : Int) < (l.length : Int)) by omega, show (0 : Int) ≤ (i : Int) by omega, if_true, jH, qo (show i < 9223372036854775807 by omega)]
      by_cases h : l.getD i 0 = x
      · simp only [h, if_true, decide_true, Bool.true_or]; exact Ev.now _
      · simp only [h, if_false, decide_false, Bool.false_or]; exact hr
  rw [Zt, Bool.or_false, J1] at h
  exact h
theorem zaa (l : List Int) (x : Int) (hl : l.length ≤ 17592186044416) : Ev (fun k => vD.f k l x) (decide (x ∈ l)) := by
  unfold vD.f jh.f qe.f
  have key : ∃ r : Int, Ev (fun k => qe.l0 k l x (l.length : Int) 0) r ∧ decide (r ≥ 0) = decide (x ∈ l) := by
    refine ⟨(List.range l.length).foldr (fun i r => if x = l.getD i 0 then (i : Int) else r) (-1), ?_, ?_⟩
    · refine jD (fun k i => qe.l0 k l x (l.length : Int) i) l.length _ (-1) ?_ fun i hi r hr => ?_
      · simp only [qe.l0, show ¬ ((l.length : Int) < (l.length : Int)) by omega, if_false]; exact Ev.now _
      · simp only [qe.l0, show ((i : Int) < (l.length : Int)) by omega, show (0 : Int) ≤ (i : Int) by omega, if_true, jH, qo (show i < 9223372036854775807 by omega)]
        by_cases h : x = l.getD i 0
        · rw [if_pos h]; simp only [if_pos h]; exact Ev.now _
        · rw [if_neg h]; simp only [if_neg h]; exact hr
    · have hh : ∀ L : List Nat, (0 ≤ L.foldr (fun i r => if x = l.getD i 0 then (i : Int) else r) (-1)) ↔ (L.any fun i => decide (l.getD i 0 = x)) = true := by
        intro L
        induction L with
        | nil => simp
        | cons i t ih =>
          simp only [List.foldr_cons, List.any_cons, Bool.or_eq_true, decide_eq_true_eq]
          by_cases h : x = l.getD i 0
          · simp only [if_pos h]; exact ⟨fun _ => .inl h.symm, fun _ => by omega⟩
          · simp only [if_neg h]; rw [ih]; exact ⟨.inr, fun hh => hh.elim (fun e => absurd e.symm h) id⟩
      rw [← J1, Bool.eq_iff_iff, decide_eq_true_eq]
      exact hh _
  obtain ⟨r, hr, e⟩ := key
  refine Ev.bind (Ev.bind hr (Ev.now _)) ?_
  rw [← e]; exact Ev.now _
def ZQ (n s : Int) : Bool := decide (0 ≤ n ∧ n ≤ 8 ∧ 0 ≤ s ∧ s < 2 ^ n.toNat)
def jL (n : Int) (l : List Int) : Bool := ((List.range l.length).all fun i => ZQ n (l.getD i 0) && (decide (i = 0) || decide (l.getD (i - 1) 0 < l.getD i 0))) && decide (0 ≤ n ∧ n ≤ 8)
theorem JR {i : Nat} (h : i < 9223372036854775807) (h0 : 0 < i) : wrap64 ((i : Int) - 1) = ((i - 1 : Nat) : Int) := by rw [j9 (by omega) (by omega)]; omega
theorem Q6 (n : Int) (l : List Int) (hl : l.length ≤ 17592186044416) : Ev (fun k => zQ.f k n l) (jL n l) := by
  unfold zQ.f
  have h := jD (fun k i => zQ.l0 k n l i) l.length (fun i r => (ZQ n (l.getD i 0) && (decide (i = 0) || decide (l.getD (i - 1) 0 < l.getD i 0))) && r) (decide (0 ≤ n ∧ n ≤ 8))
    (by simp only [zQ.l0, show ¬ ((l.length : Int) < (l.length : Int)) by omega, if_false, zbd, Option.bind_some]; exact Ev.now _) fun i hi r hr => by
      simp only [zQ.l0, show ((i : Int) < (l.length : Int)) by omega, show (0 : Int) ≤ (i : Int) by omega, if_true, jH, Vg, Option.bind_some, decide_eq_true_eq, qo (show i < 9223372036854775807 by omega)]
      unfold ZQ
      by_cases hs : 0 ≤ n ∧ n ≤ 8 ∧ 0 ≤ l.getD i 0 ∧ l.getD i 0 < 2 ^ n.toNat
      · simp only [hs, and_self, if_true, decide_true, Bool.true_and]
        by_cases h0 : i = 0
        · subst h0
          simp only [show ¬ (((0 : Nat) : Int) > 0) by omega, if_false, decide_true, Bool.true_or, Bool.true_and]; exact hr
        · simp only [show ((i : Int) > 0) by omega, if_true, JR (show i < 9223372036854775807 by omega) (Nat.pos_of_ne_zero h0), show (0 : Int) ≤ ((i - 1 : Nat) : Int) by omega, show ((i - 1 : Nat) : Int) < (l.length : Int) by omega, jH, h0, decide_false, Bool.false_or]
          by_cases hc : l.getD (i - 1) 0 < l.getD i 0
          · simp only [show ¬ (l.getD (i - 1) 0 ≥ l.getD i 0) by omega, if_false, hc, decide_true, Bool.true_and]; exact hr
          · simp only [show (l.getD (i - 1) 0 ≥ l.getD i 0) by omega, if_true, hc, decide_false, Bool.false_and]; exact Ev.now _
      · simp only [if_neg hs, decide_eq_false hs, Bool.false_and]; exact Ev.now _
  rw [Qq] at h
  exact h
theorem ZP (n : Int) (l : List Int) (hl : l.length ≤ 17592186044416) : Ev (fun k => zE.f k n l) (jL n l) := by
  unfold zE.f
  have h := jD (fun k i => zE.l0 k n l l (l.length : Int) i) l.length (fun i r => (ZQ n (l.getD i 0) && (decide (i = 0) || decide (l.getD (i - 1) 0 < l.getD i 0))) && r) (decide (0 ≤ n ∧ n ≤ 8))
    (by simp only [zE.l0, show ¬ ((l.length : Int) < (l.length : Int)) by omega, if_false, ZU, Option.bind_some]; exact Ev.now _) fun i hi r hr => by
      simp only [zE.l0, show ((i : Int) < (l.length : Int)) by omega, show (0 : Int) ≤ (i : Int) by omega, if_true, jH, Yt, Option.bind_some, decide_eq_true_eq, qo (show i < 9223372036854775807 by omega)]
      unfold ZQ
      by_cases hs : 0 ≤ n ∧ n ≤ 8 ∧ 0 ≤ l.getD i 0 ∧ l.getD i 0 < 2 ^ n.toNat
      · simp only [hs, and_self, if_true, decide_true, Bool.true_and]
        by_cases h0 : i = 0
        · subst h0
          simp only [show ¬ (((0 : Nat) : Int) > 0) by omega, if_false, decide_true, Bool.true_or, Bool.true_and]; exact hr
        · simp only [show ((i : Int) > 0) by omega, if_true, JR (show i < 9223372036854775807 by omega) (Nat.pos_of_ne_zero h0), show (0 : Int) ≤ ((i - 1 : Nat) : Int) by omega, show ((i - 1 : Nat) : Int) < (l.length : Int) by omega, jH, h0, decide_false, Bool.false_or]
          by_cases hc : l.getD (i - 1) 0 < l.getD i 0
          · simp only [show ¬ (l.getD i 0 ≤ l.getD (i - 1) 0) by omega, if_false, hc, decide_true, Bool.true_and]; exact hr
          · simp only [show (l.getD i 0 ≤ l.getD (i - 1) 0) by omega, if_true, hc, decide_false, Bool.false_and]; exact Ev.now _
      · simp only [if_neg hs, decide_eq_false hs, Bool.false_and]; exact Ev.now _
  rw [Qq] at h
  exact h
/-- What a family holds, in natural numbers. -/
theorem Zn {n : Int} {l : List Int} (h : jL n l = true) : ∃ (N : Nat) (B : List Nat), n = N ∧ N ≤ 8 ∧ l = ints B ∧ (∀ b ∈ B, b < 2 ^ N) ∧ B.Pairwise (· < ·) := by
  unfold jL at h
  simp only [Bool.and_eq_true, decide_eq_true_eq, List.all_eq_true, List.mem_range, Bool.or_eq_true] at h
  obtain ⟨h1, h2, h3⟩ := h
  obtain ⟨N, rfl⟩ := Int.eq_ofNat_of_zero_le h2
  have hset : ∀ i (hi : i < l.length), 0 ≤ l[i] ∧ l[i] < 2 ^ N := fun i hi => by
    have := (h1 i hi).1
    simp only [ZQ, decide_eq_true_eq, Int.toNat_natCast, List.getD_eq_getElem?_getD, List.getElem?_eq_getElem hi, Option.getD_some] at this
    exact ⟨this.2.2.1, this.2.2.2⟩
  have hstep : ∀ i (hi : i + 1 < l.length), l[i] < l[i + 1] := fun i hi => by
    have := (h1 (i + 1) hi).2
    simp only [Nat.succ_ne_zero, false_or, Nat.add_sub_cancel, List.getD_eq_getElem?_getD, List.getElem?_eq_getElem hi, List.getElem?_eq_getElem (show i < l.length by omega), Option.getD_some] at this
    exact this
  have hlt : ∀ j (hj : j < l.length) i (hi : i < j), l[i] < l[j] := by
    intro j
    induction j with
    | zero => intro _ i hi; omega
    | succ j ih =>
      intro hj i hi
      by_cases e : i = j
      · subst e; exact hstep i hj
      · exact Int.lt_trans (ih (by omega) i (by omega)) (hstep j hj)
  refine ⟨N, l.map Int.toNat, rfl, by omega, ?_, ?_, ?_⟩
  · apply List.ext_getElem (by simp [ints])
    intro i h1 h2
    have := (hset i h1).1
    simp [ints]; omega
  · intro b hb
    obtain ⟨x, hx, rfl⟩ := List.mem_map.1 hb
    obtain ⟨i, hi, rfl⟩ := List.getElem_of_mem hx
    have := hset i hi
    have e : (2 : Int) ^ N = ((2 ^ N : Nat) : Int) := by simp
    rw [e] at this
    generalize 2 ^ N = y at this ⊢
    omega
  · rw [List.pairwise_iff_getElem]
    intro i j hi hj hij
    simp only [List.length_map] at hi hj
    have := hlt j hj i hij
    have := (hset i hi).1
    simp only [List.getElem_map]; omega
def JI (s : Int) : Nat := if isAny s then cnt s.toNat else 0
theorem zbr : ∀ s : Nat, s < 256 → jK.f (s : Int) = some (cnt s : Int) := by decide +kernel
theorem JQ (s : Int) : js.f s = some (JI s : Int) := by
  unfold js.f JI
  rw [Qf]
  simp only [Option.bind_some]
  cases h : isAny s
  · simp
  · have hs : 0 ≤ s ∧ s < 256 := by simpa [isAny] using h
    obtain ⟨a, rfl⟩ := Int.eq_ofNat_of_zero_le hs.1
    rw [vK (by omega) (by omega)]
    simp only [if_true, jB.f, Option.bind_some, Int.toNat_natCast]
    rw [zbr a (by omega)]; rfl
end Go.Proofs.Yteggmbhcnhbamaa.L
end
section
namespace Go.Proofs.Yteggmbhcnhbamaa.L
open Go.RowKit Go.Proofs.Yteggmbhcnhbamaa.F Go.Proofs.YteggmbhcnhbamaaW.PrintWords Go.Proofs.YteggmbhcnhbamaaW.PrintLast Go.Proofs.YteggmbhcnhbamaaW.PrintMore
open Go.Proofs.Yteggmbhcnhbamaa.Bits
open Go.Proofs.Yteggmbhcnhbamaa.Mt (sdiff qq elems jr cnt full ins del Mat jc)
set_option linter.unusedSimpArgs false
set_option linter.unusedVariables false
theorem zaR : ∀ a : Nat, a < 256 → ∀ e : Nat, e < 8 → a.testBit e = true → del a e + 2 ^ e = a := by decide +kernel
theorem zaV : ∀ a : Nat, a < 256 → ∀ f : Nat, f < 8 → a.testBit f = false → ins a f = a + 2 ^ f := by decide +kernel
theorem zal {a e : Nat} (h : a < 256) : del a e < 256 := Nat.lt_of_le_of_lt (Mt.YD (Mt.yB a e)) h
theorem Vx {B : List Nat} {x : Nat} : ((x : Int) ∈ ints B) ↔ x ∈ B := by
  simp only [ints, List.mem_map]
  constructor
  · rintro ⟨y, hy, e⟩
    have : y = x := by omega
    rw [← this]; exact hy
  · intro h; exact ⟨x, h, rfl⟩
/-- Some element of b can be put for e in a. -/
def Zx (B : List Nat) (a b e : Nat) : Bool := (elems (sdiff b a)).any fun f => decide (ins (del a e) f ∈ B)
theorem VT {B : List Nat} {N a b e : Nat} (hN : N ≤ 8) (hb : b < 2 ^ N) : Zx B a b e = (List.range N).any fun f => b.testBit f && (!a.testBit f && decide (ins (del a e) f ∈ B)) := by
  unfold Zx
  rw [Bool.eq_iff_iff]
  simp only [List.any_eq_true, jr, List.mem_range, qq, Bool.and_eq_true, Bool.not_eq_true', decide_eq_true_eq]
  constructor
  · rintro ⟨f, ⟨_, h1, h2⟩, h3⟩; exact ⟨f, Mt.jY hb h1, h1, h2, h3⟩
  · rintro ⟨f, h0, h1, h2, h3⟩; exact ⟨f, ⟨by omega, h1, h2⟩, h3⟩
def Y4 (B : List Nat) : Bool := B.all fun a => B.all fun b => (elems (sdiff a b)).all fun e => Zx B a b e
def qC (n : Int) (l : List Int) : Bool := jL n l && decide (0 < l.length) && Y4 (l.map Int.toNat)
theorem q8 (B : List Nat) : (ints B).map Int.toNat = B := by
  simp only [ints, List.map_map]
  induction B with
  | nil => rfl
  | cons x t ih => simp only [List.map_cons, ih]; rfl
/-- What a matroid holds. -/
theorem j7 {n : Int} {l : List Int} (h : qC n l = true) : ∃ (N : Nat) (B : List Nat), n = N ∧ l = ints B ∧ B.Pairwise (· < ·) ∧ Mat N B := by
  unfold qC at h
  simp only [Bool.and_eq_true, decide_eq_true_eq] at h
  obtain ⟨⟨h1, h2⟩, h3⟩ := h
  obtain ⟨N, B, rfl, hN, rfl, hB, hp⟩ := Zn h1
  rw [q8] at h3
  refine ⟨N, B, rfl, rfl, hp, ⟨hN, hB, ?_, ?_⟩⟩
  · intro e; rw [e] at h2; simp [ints] at h2
  · intro a ha b hb e he hbe
    have h4 := List.all_eq_true.1 (List.all_eq_true.1 (List.all_eq_true.1 h3 a ha) b hb) e (jr.2 ⟨Mt.jY (n := 8) (jc hN (hB a ha)) he, by rw [qq, he, hbe]; rfl⟩)
    simp only [Zx, List.any_eq_true, jr, qq, Bool.and_eq_true, Bool.not_eq_true', decide_eq_true_eq] at h4
    obtain ⟨f, ⟨_, h5, h6⟩, h7⟩ := h4
    exact ⟨f, h5, h6, h7⟩
theorem Yu (a e : Nat) (ha : a < 256) (he : e ≤ 64) : qS.f (a : Int) (e : Int) = some (a.testBit e) := by
  unfold qS.f; rw [vK (by omega) (by omega), if_pos (by omega), Yh _ _ (by omega) (by omega)]
section
variable {N : Nat} {B : List Nat}
theorem zbq (hN : N ≤ 8) (hB : ∀ b ∈ B, b < 2 ^ N) (hl : B.length ≤ 17592186044416) {a b e : Nat} (ha : a < 2 ^ N) (hb : b < 2 ^ N) (he : a.testBit e = true) :
    Ev (fun k => zL.f k (N : Int) (ints B) a b e) (Zx B a b e) := by
  have ha8 := jc hN ha
  have hb8 := jc hN hb
  have he8 : e < 8 := Mt.jY (n := 8) ha8 he
  rw [VT hN hb]
  unfold zL.f
  have h := jD (fun k f => zL.l0 k a b e f N (ints B)) N (fun f r => (b.testBit f && (!a.testBit f && decide (ins (del a e) f ∈ B))) || r) false
    (by simp only [zL.l0, show ¬ ((N : Int) < (N : Int)) by omega, if_false]; exact Ev.now _) fun f hf r hr => by
      simp only [zL.l0, show ((f : Int) < (N : Int)) by omega, if_true, Yu b f hb8 (by omega), Yu a f ha8 (by omega), Option.bind_some, qo (show f < 9223372036854775807 by omega)]
      cases h1 : b.testBit f
      · simp only [Bool.false_eq_true, if_false, Bool.false_and, Bool.false_or]; exact hr
      · cases h2 : a.testBit f
        · have hd := zal (e := e) ha8
          have e1 := zaR a ha8 e he8 he
          have hdf : (del a e).testBit f = false := by rw [Mt.jj, h2]; rfl
          have e2 := zaV (del a e) hd f (by omega) hdf
          have ew : wrap64 ((wrap64 ((a : Int) - (shl .i64 1 (IntKind.u64.wrap (e : Int))))) + (shl .i64 1 (IntKind.u64.wrap (f : Int)))) = ((ins (del a e) f : Nat) : Int) := by
            have p1 : 2 ^ e ≤ 2 ^ 8 := Nat.pow_le_pow_right (by decide) (by omega)
            have p2 : 2 ^ f ≤ 2 ^ 8 := Nat.pow_le_pow_right (by decide) (by omega)
            rw [vK (by omega) (by omega), vK (n := (f : Int)) (by omega) (by omega), vW e (by omega), vW f (by omega), e2]
            generalize 2 ^ e = x at e1 p1 ⊢
            generalize 2 ^ f = y at p2 ⊢
            rw [j9 (n := (a : Int) - (x : Int)) (by omega) (by omega), j9 (by omega) (by omega)]
            omega
          simp only [Bool.false_eq_true, if_false, Bool.not_false, Bool.true_and]
          simp only [show (0 : Int) ≤ IntKind.u64.wrap (e : Int) by rw [vK (by omega) (by omega)]; omega, show (0 : Int) ≤ IntKind.u64.wrap (f : Int) by rw [vK (by omega) (by omega)]; omega, if_true, ew]
          refine Ev.bind (zac (ints B) _ (by rw [zr]; exact hl)) ?_
          simp only [Vx]
          by_cases hm : ins (del a e) f ∈ B
          · simp only [hm, decide_true, if_true, Bool.true_or]; exact Ev.now _
          · simp only [hm, decide_false, Bool.false_eq_true, if_false, Bool.false_or]; exact hr
        · simp only [if_true, Bool.not_true, Bool.false_and, Bool.and_false, Bool.false_or]; exact hr
  rw [Zt, Bool.or_false] at h
  exact h
/-- The failing element of two bases, as1 the reference looks for it: over all places. -/
def ffS (N : Nat) (B : List Nat) : Int × Int × Int × Bool :=
  (List.range B.length).foldr (fun i r => (List.range B.length).foldr (fun j r => (List.range N).foldr (fun e r =>
    if (B.getD i 0).testBit e && (!(B.getD j 0).testBit e && !Zx B (B.getD i 0) (B.getD j 0) e) then (((B.getD i 0 : Nat) : Int), ((B.getD j 0 : Nat) : Int), (e : Int), true) else r) r) r) (0, 0, 0, false)
/-- The same, as1 the program looks for it: over the elements of the difference. -/
def ffI (B : List Nat) : Int × Int × Int × Bool :=
  (List.range B.length).foldr (fun i r => (List.range B.length).foldr (fun j r => (List.range (elems (sdiff (B.getD i 0) (B.getD j 0))).length).foldr (fun m r =>
    if !Zx B (B.getD i 0) (B.getD j 0) ((elems (sdiff (B.getD i 0) (B.getD j 0))).getD m 0) then (((B.getD i 0 : Nat) : Int), ((B.getD j 0 : Nat) : Int), (((elems (sdiff (B.getD i 0) (B.getD j 0))).getD m 0 : Nat) : Int), true) else r) r) r) (0, 0, 0, false)
theorem j6 (i : Nat) (hi : i < B.length) : B.getD i 0 = B[i] := by simp [List.getElem?_eq_getElem hi]
theorem vz (i : Nat) (hi : i < B.length) : rd (ints B) (i : Int) = ((B.getD i 0 : Nat) : Int) := by rw [Yg B i hi, j6 i hi]
theorem yj (hB : ∀ b ∈ B, b < 2 ^ N) (i : Nat) (hi : i < B.length) : B.getD i 0 < 2 ^ N := by rw [j6 i hi]; exact hB _ (List.getElem_mem hi)
theorem YC (hN : N ≤ 8) (hB : ∀ b ∈ B, b < 2 ^ N) (hl : B.length ≤ 17592186044416) : Ev (fun k => zv.l0 k (N : Int) (ints B) 0) (ffS N B) := by
  refine jD (fun k i => zv.l0 k (N : Int) (ints B) i) B.length _ (0, 0, 0, false) ?_ fun i hi r hr => ?_
  · simp only [zv.l0, zr, show ¬ ((B.length : Int) < (B.length : Int)) by omega, if_false]; exact Ev.now _
  simp only [zv.l0, zr, show ((i : Int) < (B.length : Int)) by omega, show (0 : Int) ≤ (i : Int) by omega, if_true]
  refine jD (fun k j => zv.l1 k (N : Int) (ints B) i j) B.length _ r ?_ fun j hj r hr => ?_
  · simp only [zv.l1, zr, show ¬ ((B.length : Int) < (B.length : Int)) by omega, if_false, qo (show i < 9223372036854775807 by omega)]; exact hr
  simp only [zv.l1, zr, show ((j : Int) < (B.length : Int)) by omega, show (0 : Int) ≤ (j : Int) by omega, if_true]
  have ha := yj hB i hi
  have hb := yj hB j hj
  have ea := vz i hi
  have eb := vz j hj
  refine jD (fun k e => zv.l2 k (N : Int) (ints B) i j e) N _ r ?_ fun e he r hr => ?_
  · simp only [zv.l2, show ¬ ((N : Int) < (N : Int)) by omega, if_false, qo (show j < 9223372036854775807 by omega)]; exact hr
  generalize B.getD i 0 = a at ha ea ⊢
  generalize B.getD j 0 = b at hb eb ⊢
  simp only [zv.l2, show ((e : Int) < (N : Int)) by omega, if_true, ea, eb, Yu a e (jc hN ha) (by omega), Yu b e (jc hN hb) (by omega), Option.bind_some, qo (show e < 9223372036854775807 by omega)]
  cases h1 : a.testBit e
  · simp only [Bool.false_eq_true, if_false, Bool.false_and]; exact hr
  · cases h2 : b.testBit e
    · simp only [if_true, Bool.false_eq_true, if_false, Bool.not_false, Bool.true_and]
      refine Ev.bind (zbq hN hB hl ha hb h1) ?_
      cases h3 : Zx B a b e
      · simp only [Bool.false_eq_true, if_false, Bool.not_false, if_true]; exact Ev.now _
      · simp only [if_true, Bool.not_true, Bool.false_eq_true, if_false]; exact hr
    · simp only [if_true, Bool.not_true, Bool.false_and, Bool.and_false, Bool.false_eq_true, if_false]; exact hr
theorem Yi (Q : Nat → Int → Option Bool) (p : Nat → Bool) : ∀ l : List Nat, (∀ x ∈ l, Ev (fun k => Q k (x : Int)) (p x)) → Ev (fun k => Zv (Q k) (ints l)) (l.any p)
  | [], _ => by simp only [ints, List.map_nil, Zv, List.any_nil]; exact Ev.now _
  | x :: t, h => by
    simp only [ints, List.map_cons, Zv, List.any_cons]
    refine Ev.bind (h x (List.mem_cons_self ..)) ?_
    cases hp : p x
    · simp only [Bool.false_eq_true, if_false, Bool.false_or]; exact Yi Q p t fun y hy => h y (List.mem_cons_of_mem _ hy)
    · simp only [if_true, Bool.true_or]; exact Ev.now _
theorem Jk {s : Nat} (h : s < 256) : Jo (s : Int) = elems s := by unfold Jo; rw [if_pos (by simp [isAny]; omega)]; rfl
theorem Vq {a b : Nat} (h : a < 256) : sdiff a b < 256 := Q0 (n := 8) h
theorem YM (hN : N ≤ 8) (hB : ∀ b ∈ B, b < 2 ^ N) (hl : B.length ≤ 17592186044416) : Ev (fun k => zt.l0 k (ints B) 0) (ffI B) := by
  refine jD (fun k i => zt.l0 k (ints B) i) B.length _ (0, 0, 0, false) ?_ fun i hi r hr => ?_
  · simp only [zt.l0, zr, show ¬ ((B.length : Int) < (B.length : Int)) by omega, if_false]; exact Ev.now _
  simp only [zt.l0, zr, show ((i : Int) < (B.length : Int)) by omega, show (0 : Int) ≤ (i : Int) by omega, if_true]
  have ha := yj hB i hi
  have ea := vz i hi
  refine jD (fun k j => zt.l1 k (ints B) i j) B.length _ r ?_ fun j hj r hr => ?_
  · simp only [zt.l1, zr, show ¬ ((B.length : Int) < (B.length : Int)) by omega, if_false, qo (show i < 9223372036854775807 by omega)]; exact hr
  have hb := yj hB j hj
  have eb := vz j hj
  generalize B.getD i 0 = a at ha ea ⊢
  generalize B.getD j 0 = b at hb eb ⊢
  have ha8 := jc hN ha
  have hb8 := jc hN hb
  simp only [zt.l1, zr, show ((j : Int) < (B.length : Int)) by omega, show (0 : Int) ≤ (j : Int) by omega, if_true, ea, eb, yb a b (by omega) (by omega)]
  refine Ev.bind (Qc _) ?_
  rw [Jk (Vq ha8)]
  have hes : ∀ e ∈ elems (sdiff a b), e < 8 ∧ a.testBit e = true := fun e he => by
    have := jr.1 he
    rw [qq] at this; simp at this; exact ⟨this.1, this.2.1⟩
  have hlen := ZS (sdiff a b)
  generalize elems (sdiff a b) = es at hes hlen ⊢
  refine jD (fun k m => zt.l2 k (ints B) i j (ints es) m) es.length _ r ?_ fun m hm r hr => ?_
  · simp only [zt.l2, zr, show ¬ ((es.length : Int) < (es.length : Int)) by omega, if_false, qo (show j < 9223372036854775807 by omega)]; exact hr
  have he := hes es[m] (List.getElem_mem hm)
  have ee := Yg es m hm
  rw [show es.getD m 0 = es[m] by simp [List.getElem?_eq_getElem hm]]
  generalize es[m] = e at he ee ⊢
  simp only [zt.l2, zr, show ((m : Int) < (es.length : Int)) by omega, show (0 : Int) ≤ (m : Int) by omega, if_true, ea, eb, ee, yb b a (by omega) (by omega), qo (show m < 9223372036854775807 by omega)]
  refine Ev.bind (Qc _) ?_
  rw [Jk (Vq hb8)]
  have hlf := ZS (sdiff b a)
  simp only [zr, show (elems (sdiff b a)).length ≤ 17592186044416 by omega, if_true]
  refine Ev.bind (Yi (fun k => zt.q k (ints B) a e) (fun f => decide (ins (del a e) f ∈ B)) (elems (sdiff b a)) fun f hf => ?_) ?_
  · have hf8 := (jr.1 hf).1
    have p1 : 2 ^ e ≤ 2 ^ 8 := Nat.pow_le_pow_right (by decide) (by omega)
    have p2 : 2 ^ f ≤ 2 ^ 8 := Nat.pow_le_pow_right (by decide) (by omega)
    have hd := zal (e := e) ha8
    simp only [zt.q, show (0 : Int) ≤ (e : Int) by omega, show (0 : Int) ≤ (f : Int) by omega, if_true, vW e (by omega), vW f (by omega)]
    rw [yb a (2 ^ e) (by omega) (by omega), Qa (sdiff a (2 ^ e)) (2 ^ f) (by have : sdiff a (2 ^ e) < 256 := hd; omega) (by omega)]
    have hh := zaa (ints B) ((sdiff a (2 ^ e) ||| 2 ^ f : Nat) : Int) (by rw [zr]; exact hl)
    rw [show decide (((sdiff a (2 ^ e) ||| 2 ^ f : Nat) : Int) ∈ ints B) = decide (ins (del a e) f ∈ B) by rw [decide_eq_decide]; exact Vx] at hh
    exact hh
  show Ev _ (if (!Zx B a b e) = true then _ else r)
  rw [show ((elems (sdiff b a)).any fun f => decide (ins (del a e) f ∈ B)) = Zx B a b e from rfl]
  cases h3 : Zx B a b e
  · simp only [Bool.false_eq_true, if_false, Bool.not_false, if_true]; exact Ev.now _
  · simp only [if_true, Bool.not_true, Bool.false_eq_true, if_false]; exact hr
theorem Zj {α ρ : Type} (c : ρ → Bool) (F : α → ρ → ρ) (P : α → Bool) (h : ∀ x r, c (F x r) = (P x || c r)) (r : ρ) : ∀ l : List α, c (l.foldr F r) = (l.any P || c r)
  | [] => by simp
  | x :: t => by rw [List.foldr_cons, h, Zj c F P h r t, List.any_cons, Bool.or_assoc]
theorem VL {α ρ : Type} (c : ρ → Bool) (p : α → Bool) (g : α → ρ) (hg : ∀ x, c (g x) = true) (r : ρ) (l : List α) : c (l.foldr (fun x r => if p x = true then g x else r) r) = (l.any p || c r) :=
  Zj c _ p (fun x r => by cases h : p x <;> simp [h, hg]) r l
theorem zaO (hN : N ≤ 8) (hB : ∀ b ∈ B, b < 2 ^ N) : (ffS N B).2.2.2 = !Y4 B := by
  unfold ffS
  rw [Zj (fun r : Int × Int × Int × Bool => r.2.2.2) _ (fun i => (List.range B.length).any fun j => (List.range N).any fun e => (B.getD i 0).testBit e && (!(B.getD j 0).testBit e && !Zx B (B.getD i 0) (B.getD j 0) e)) (fun i r => by
    rw [Zj (fun r : Int × Int × Int × Bool => r.2.2.2) _ (fun j => (List.range N).any fun e => (B.getD i 0).testBit e && (!(B.getD j 0).testBit e && !Zx B (B.getD i 0) (B.getD j 0) e)) (fun j r => by
      exact VL (fun r : Int × Int × Int × Bool => r.2.2.2) _ _ (fun _ => rfl) r _)])]
  rw [Bool.or_false, Bool.eq_iff_iff]
  simp only [List.any_eq_true, List.mem_range, Bool.and_eq_true, Bool.not_eq_true']
  constructor
  · rintro ⟨i, hi, j, hj, e, he, h1, h2, h3⟩
    rw [j6 i hi] at h1 h3
    rw [j6 j hj] at h2 h3
    rw [Bool.eq_false_iff]
    intro hm
    have := List.all_eq_true.1 (List.all_eq_true.1 (List.all_eq_true.1 hm B[i] (List.getElem_mem hi)) B[j] (List.getElem_mem hj)) e (jr.2 ⟨by omega, by rw [qq, h1, h2]; rfl⟩)
    rw [h3] at this; cases this
  · intro hm
    obtain ⟨a, ha, h⟩ := List.all_eq_false.1 hm
    obtain ⟨b, hb, h⟩ := List.all_eq_false.1 (Bool.eq_false_iff.2 h)
    obtain ⟨e, he, h⟩ := List.all_eq_false.1 (Bool.eq_false_iff.2 h)
    obtain ⟨i, hi, rfl⟩ := List.getElem_of_mem ha
    obtain ⟨j, hj, rfl⟩ := List.getElem_of_mem hb
    have hd := (jr.1 he).2
    rw [qq] at hd
    simp only [Bool.and_eq_true, Bool.not_eq_true'] at hd
    refine ⟨i, hi, j, hj, e, Mt.jY (hB _ ha) hd.1, ?_⟩
    rw [j6 i hi, j6 j hj]
    exact ⟨hd.1, hd.2, Bool.eq_false_iff.2 h⟩
theorem zaL : (ffI B).2.2.2 = !Y4 B := by
  unfold ffI
  rw [Zj (fun r : Int × Int × Int × Bool => r.2.2.2) _ (fun i => (List.range B.length).any fun j => (List.range (elems (sdiff (B.getD i 0) (B.getD j 0))).length).any fun m => !Zx B (B.getD i 0) (B.getD j 0) ((elems (sdiff (B.getD i 0) (B.getD j 0))).getD m 0)) (fun i r => by
    rw [Zj (fun r : Int × Int × Int × Bool => r.2.2.2) _ (fun j => (List.range (elems (sdiff (B.getD i 0) (B.getD j 0))).length).any fun m => !Zx B (B.getD i 0) (B.getD j 0) ((elems (sdiff (B.getD i 0) (B.getD j 0))).getD m 0)) (fun j r => by
      exact VL (fun r : Int × Int × Int × Bool => r.2.2.2) _ _ (fun _ => rfl) r _)])]
  rw [Bool.or_false, Bool.eq_iff_iff]
  simp only [List.any_eq_true, List.mem_range, Bool.not_eq_true']
  constructor
  · rintro ⟨i, hi, j, hj, m, hm, h3⟩
    rw [j6 i hi, j6 j hj] at h3 hm
    rw [Bool.eq_false_iff]
    intro hmm
    rw [show (elems (sdiff B[i] B[j])).getD m 0 = (elems (sdiff B[i] B[j]))[m] by simp [List.getElem?_eq_getElem hm]] at h3
    have := List.all_eq_true.1 (List.all_eq_true.1 (List.all_eq_true.1 hmm B[i] (List.getElem_mem hi)) B[j] (List.getElem_mem hj)) _ (List.getElem_mem hm)
    rw [h3] at this; cases this
  · intro hm
    obtain ⟨a, ha, h⟩ := List.all_eq_false.1 hm
    obtain ⟨b, hb, h⟩ := List.all_eq_false.1 (Bool.eq_false_iff.2 h)
    obtain ⟨e, he, h⟩ := List.all_eq_false.1 (Bool.eq_false_iff.2 h)
    obtain ⟨i, hi, rfl⟩ := List.getElem_of_mem ha
    obtain ⟨j, hj, rfl⟩ := List.getElem_of_mem hb
    obtain ⟨m, hm, rfl⟩ := List.getElem_of_mem he
    refine ⟨i, hi, j, hj, m, ?_, ?_⟩
    · rw [j6 i hi, j6 j hj]; exact hm
    · rw [j6 i hi, j6 j hj, show (elems (sdiff B[i] B[j])).getD m 0 = (elems (sdiff B[i] B[j]))[m] by simp [List.getElem?_eq_getElem hm]]
      exact Bool.eq_false_iff.2 h
end
theorem Za (n : Int) (l : List Int) (hl : l.length ≤ 17592186044416) : Ev (fun k => zA.f k n l) (qC n l) := by
  unfold zA.f zv.f qC
  have hf := Q6 n l hl
  cases h : jL n l
  · rw [h] at hf
    refine Ev.bind (Ev.bind hf (by simp only [Bool.false_eq_true, if_false]; exact Ev.now _)) (Ev.bind hf ?_)
    simp only [Bool.false_eq_true, if_false, Bool.false_and]; exact Ev.now _
  · rw [h] at hf
    obtain ⟨N, B, rfl, hN, rfl, hB, hp⟩ := Zn h
    rw [zr] at hl
    refine Ev.bind (Ev.bind hf (by simp only [if_true]; exact YC hN hB hl)) (Ev.bind hf ?_)
    simp only [if_true, zaO hN hB, Bool.not_not, q8, Bool.true_and, zr]
    by_cases h0 : 0 < B.length
    · simp only [show ((B.length : Int) > 0) by omega, if_true, h0, decide_true, Bool.true_and]; exact Ev.now _
    · simp only [show ¬ ((B.length : Int) > 0) by omega, if_false, h0, decide_false, Bool.false_and]; exact Ev.now _
theorem ya (n : Int) (l : List Int) (hl : l.length ≤ 17592186044416) : Ev (fun k => zZ.f k n l) (qC n l) := by
  unfold zZ.f zt.f qC
  have hf := ZP n l hl
  cases h : jL n l
  · rw [h] at hf
    refine Ev.bind (Ev.bind hf (by simp only [Bool.false_eq_true, if_false]; exact Ev.now _)) (Ev.bind hf ?_)
    simp only [Bool.false_eq_true, if_false, Bool.false_and]; exact Ev.now _
  · rw [h] at hf
    obtain ⟨N, B, rfl, hN, rfl, hB, hp⟩ := Zn h
    rw [zr] at hl
    refine Ev.bind (Ev.bind hf (by simp only [if_true]; exact YM hN hB hl)) (Ev.bind hf ?_)
    simp only [if_true, zaL, Bool.not_not, q8, Bool.true_and, zr]
    by_cases h0 : 0 < B.length
    · simp only [show ((B.length : Int) > 0) by omega, if_true, h0, decide_true, Bool.true_and]; exact Ev.now _
    · simp only [show ¬ ((B.length : Int) > 0) by omega, if_false, h0, decide_false, Bool.false_and]; exact Ev.now _
end Go.Proofs.Yteggmbhcnhbamaa.L
end
section
namespace Go.Proofs.Yteggmbhcnhbamaa.L
open Go.RowKit Go.Proofs.Yteggmbhcnhbamaa.F Go.Proofs.YteggmbhcnhbamaaW.PrintWords Go.Proofs.YteggmbhcnhbamaaW.PrintLast Go.Proofs.YteggmbhcnhbamaaW.PrintMore
open Go.Proofs.Yteggmbhcnhbamaa.Bits
open Go.Proofs.Yteggmbhcnhbamaa.Mt (sdiff qq elems jr cnt Qr full ins del Mat jc rk)
set_option linter.unusedSimpArgs false
set_option linter.unusedVariables false
/-- The count, halving: a small number's bits. -/
theorem YQ : ∀ s : Nat, s < 256 → cnt s = s % 2 + cnt (s / 2) := by decide +kernel
theorem Ji : ∀ (d s : Nat) (x : Int), s < 2 ^ d → d ≤ 8 → 0 ≤ x → x + d ≤ 100 → Ev (fun k => zY.l0 k (s : Int) x) (x + cnt s)
  | 0, s, x, hs, _, h0, h1 => by
    have : s = 0 := by simp at hs; exact hs
    subst this
    refine Ev.succ ?_
    simp only [zY.l0, show ¬ (((0 : Nat) : Int) > 0) by omega, if_false]
    exact Ev.some (by rw [Mt.Z9]; omega)
  | d + 1, s, x, hs, hd, h0, h1 => by
    refine Ev.succ ?_
    by_cases hz : s = 0
    · subst hz
      simp only [zY.l0, show ¬ (((0 : Nat) : Int) > 0) by omega, if_false]
      exact Ev.some (by rw [Mt.Z9]; omega)
    · have h256 : s < 256 := Nat.lt_of_lt_of_le hs (Nat.pow_le_pow_right (n := 2) (by decide) hd)
      have hb := YQ s h256
      have e1 : Go.bits .and .i64 (s : Int) 1 = ((s % 2 : Nat) : Int) := by
        have := yN s 1 (by omega) (by omega)
        rw [show ((1 : Nat) : Int) = 1 from rfl] at this
        rw [this, Nat.and_one_is_mod]
      have e2 : (s : Int) / 2 = ((s / 2 : Nat) : Int) := by omega
      have hlt : s / 2 < 2 ^ d := by rw [Nat.pow_succ] at hs; omega
      simp only [zY.l0, show ((s : Int) > 0) by omega, if_true, e1, e2]
      rw [j9 (by omega) (by omega)]
      have ih := Ji d (s / 2) (x + ((s % 2 : Nat) : Int)) hlt (by omega) (by omega) (by omega)
      rw [show x + (cnt s : Int) = x + ((s % 2 : Nat) : Int) + (cnt (s / 2) : Int) by rw [hb]; omega]
      exact ih
theorem J0 (s : Int) : Ev (fun k => zY.f k s) (JI s : Int) := by
  unfold zY.f JI isAny
  simp only [Vg, Option.bind_some, decide_eq_true_eq]
  by_cases h : 0 ≤ s ∧ s < 256
  · obtain ⟨a, rfl⟩ := Int.eq_ofNat_of_zero_le h.1
    simp only [show (0 : Int) ≤ 8 ∧ (8 : Int) ≤ 8 ∧ (0 : Int) ≤ (a : Int) ∧ (a : Int) < 2 ^ (8 : Int).toNat from ⟨by omega, by omega, by omega, by simpa using h.2⟩, and_self, if_true, h, decide_true, Int.toNat_natCast]
    have := Ji 8 a 0 (by omega) (by omega) (by omega) (by omega)
    simpa using this
  · have h' : ¬ (0 ≤ (8 : Int) ∧ (8 : Int) ≤ 8 ∧ 0 ≤ s ∧ s < 2 ^ (8 : Int).toNat) := fun hh => h ⟨hh.2.2.1, by simpa using hh.2.2.2⟩
    first
      | (simp only [if_neg h', if_neg h, decide_eq_false h, Bool.false_eq_true, if_false]; exact Ev.now _)
      | (simp only [h, decide_false, Bool.false_eq_true, if_false]; exact Ev.now _)
theorem QX {s : Nat} (h : s < 256) : JI (s : Int) = cnt s := by unfold JI; rw [if_pos (by simp [isAny]; omega)]; rfl
theorem zbI (a b : Int) : vC.f a b = some (max a b) := by
  unfold vC.f
  by_cases h : a > b
  · rw [if_pos h, show max a b = a by omega]
  · rw [if_neg h, show max a b = b by omega]
theorem Vj (B : List Nat) (s : Nat) : ∀ n, n ≤ B.length → ((List.range n).foldl (fun (m : Int) i => max m ((cnt (s &&& B.getD i 0) : Nat) : Int)) 0) = ((rk (B.take n) s : Nat) : Int)
  | 0, _ => by simp [rk]
  | n + 1, h => by
    rw [List.range_succ, List.foldl_append, Vj B s n (by omega), List.take_succ_eq_append_getElem (by omega)]
    simp only [List.foldl_cons, List.foldl_nil, rk, List.foldl_append]
    rw [show B.getD n 0 = B[n] by simp [List.getElem?_eq_getElem (show n < B.length by omega)]]
    omega
section
variable {N : Nat} {B : List Nat}
theorem VV (hN : N ≤ 8) (hB : ∀ b ∈ B, b < 2 ^ N) (hl : B.length ≤ 17592186044416) {s : Nat} (hs : s < 256) (n : Int) : Ev (fun k => qf.f k n (ints B) s) (rk B s : Int) := by
  unfold qf.f
  have key := vB (fun k (m : Int) i => qf.l0 k s m i n (ints B)) B.length (fun m i => max m ((cnt (s &&& B.getD i 0) : Nat) : Int)) (fun _ _ => True) id
    (fun m _ => by simp only [qf.l0, zr, show ¬ ((B.length : Int) < (B.length : Int)) by omega, if_false]; exact Ev.now _)
    (fun i m hi _ => ⟨trivial, fun r hr => by
      have hb := yj hB i hi
      have eb := vz i hi
      generalize B.getD i 0 = b at hb eb hr
      have hb8 := jc hN hb
      simp only [qf.l0, zr, show ((i : Int) < (B.length : Int)) by omega, show (0 : Int) ≤ (i : Int) by omega, if_true, eb, yN b s (by omega) (by omega), qo (show i < 9223372036854775807 by omega)]
      refine Ev.bind (J0 _) ?_
      rw [QX (Nat.lt_of_le_of_lt Nat.and_le_left hb8), Nat.and_comm b s]
      simp only [zbI, Option.bind_some]
      exact hr⟩) 0 trivial
  have e := Vj B s B.length (Nat.le_refl _)
  rw [List.take_length] at e
  rw [e] at key
  exact key
theorem Ya (hN : N ≤ 8) (hB : ∀ b ∈ B, b < 2 ^ N) (hl : B.length ≤ 17592186044416) {s : Nat} (hs : s < 256) (n : Int) : Ev (fun k => qD.f k n (ints B) s) (rk B s : Int) := by
  unfold qD.f
  have key := vB (fun k (m : Int) i => qD.l0 k s m (ints B) ((ints B).length : Int) i) B.length (fun m i => max m ((cnt (s &&& B.getD i 0) : Nat) : Int)) (fun _ _ => True) id
    (fun m _ => by simp only [qD.l0, zr, show ¬ ((B.length : Int) < (B.length : Int)) by omega, if_false]; exact Ev.now _)
    (fun i m hi _ => ⟨trivial, fun r hr => by
      have hb := yj hB i hi
      have eb := vz i hi
      generalize B.getD i 0 = b at hb eb hr
      have hb8 := jc hN hb
      simp only [qD.l0, zr, show ((i : Int) < (B.length : Int)) by omega, show (0 : Int) ≤ (i : Int) by omega, if_true, eb, yN s b (by omega) (by omega), qo (show i < 9223372036854775807 by omega), JQ, Option.bind_some]
      rw [QX (Nat.lt_of_le_of_lt Nat.and_le_left hs)]
      rw [show mx m ((cnt (s &&& b) : Nat) : Int) = max m ((cnt (s &&& b) : Nat) : Int) by unfold mx; omega]
      simpa [zr] using hr⟩) 0 trivial
  have e := Vj B s B.length (Nat.le_refl _)
  rw [List.take_length] at e
  rw [e] at key
  simpa [zr] using key
end
theorem Qm {N : Nat} (hN : N ≤ 8) : jz.f (N : Int) = some ((full N : Nat) : Int) := by
  unfold jz.f full
  have hp : (2 : Nat) ^ N ≤ 2 ^ 8 := Nat.pow_le_pow_right (by decide) hN
  have h0 : 0 < (2 : Nat) ^ N := Nat.two_pow_pos N
  simp only [ZU, Option.bind_some, decide_eq_true_eq, show (0 : Int) ≤ (N : Int) ∧ (N : Int) ≤ 8 from ⟨by omega, by omega⟩, and_self, if_true, show (0 : Int) ≤ (N : Int) by omega, vW N (by omega)]
  generalize 2 ^ N = x at hp h0
  rw [j9 (by omega) (by omega)]; simp; omega
theorem Zm {N : Nat} (hN : N ≤ 8) : qB.f (N : Int) = some ((full N : Nat) : Int) := by
  unfold qB.f full
  have hp : (2 : Nat) ^ N ≤ 2 ^ 8 := Nat.pow_le_pow_right (by decide) hN
  have h0 : 0 < (2 : Nat) ^ N := Nat.two_pow_pos N
  simp only [zbd, Option.bind_some, decide_eq_true_eq, show (0 : Int) ≤ (N : Int) ∧ (N : Int) ≤ 8 from ⟨by omega, by omega⟩, and_self, if_true]
  rw [vK (by omega) (by omega), vW N (by omega), if_pos (by omega)]
  generalize 2 ^ N = x at hp h0
  rw [j9 (by omega) (by omega)]; simp; omega
theorem Zl {N s : Nat} : ((s : Int) ≤ ((full N : Nat) : Int)) ↔ s < 2 ^ N := by
  have h0 : 0 < (2 : Nat) ^ N := Nat.two_pow_pos N
  unfold full
  generalize 2 ^ N = x at h0
  omega
end Go.Proofs.Yteggmbhcnhbamaa.L
end
section
namespace Go.Proofs.Yteggmbhcnhbamaa.L
open Go.RowKit Go.Proofs.Yteggmbhcnhbamaa.F Go.Proofs.YteggmbhcnhbamaaW.PrintWords Go.Proofs.YteggmbhcnhbamaaW.PrintLast Go.Proofs.YteggmbhcnhbamaaW.PrintMore
open Go.Proofs.Yteggmbhcnhbamaa.Bits
open Go.Proofs.Yteggmbhcnhbamaa.Mt (full)
set_option linter.unusedSimpArgs false
set_option linter.unusedVariables false
/-- setsOf over a predicate that says p of all sets of N elements. -/
theorem Qn (q : Int → Option Bool) (p : Nat → Bool) {N : Nat} (hN : N ≤ 8) (hq : ∀ s : Nat, s < 2 ^ N → q (s : Int) = some (p s)) :
    ∀ (d j fuel : Nat) (out : List Int), j + d = 2 ^ N → d < fuel → out.length ≤ j → vE q fuel (N : Int) out (j : Int) = some (out ++ ints ((List.range' j d).filter p))
  | 0, j, fuel + 1, out, hd, _, ho => by
    have hn : ¬ ((j : Int) ≤ ((full N : Nat) : Int)) := fun h => by have := Zl.1 h; omega
    simp only [vE, Qm hN, Option.bind_some, if_neg hn]
    simp [ints]
  | d + 1, j, fuel + 1, out, hd, hf, ho => by
    have hp : (2 : Nat) ^ N ≤ 2 ^ 8 := Nat.pow_le_pow_right (by decide) hN
    have hj : j < 2 ^ N := by omega
    simp only [vE, Qm hN, Option.bind_some, Zl.2 hj, if_true, hq j hj, qo (show j < 9223372036854775807 by omega)]
    rw [List.range'_succ, List.filter_cons]
    cases h : p j
    · simp only [Bool.false_eq_true, if_false]
      exact Qn q p hN hq d (j + 1) fuel out (by omega) (by omega) (by omega)
    · simp only [if_true, show out.length < 17592186044416 by omega]
      rw [Qn q p hN hq d (j + 1) fuel (out ++ [(j : Int)]) (by omega) (by omega) (by simp; omega)]
      simp [ints]
theorem YW (Q : Nat → Int → Option Bool) (p : Nat → Bool) : ∀ m : Nat, (∀ s : Nat, s < m → Ev (fun k => Q k (s : Int)) (p s)) → ∃ K, ∀ k, K ≤ k → ∀ s : Nat, s < m → Q k (s : Int) = some (p s)
  | 0, _ => ⟨0, fun _ _ s hs => absurd hs (Nat.not_lt_zero s)⟩
  | m + 1, h => by
    obtain ⟨K, hK⟩ := YW Q p m fun s hs => h s (by omega)
    obtain ⟨K', hK'⟩ := h m (by omega)
    refine ⟨max K K', fun k hk s hs => ?_⟩
    by_cases e : s = m
    · subst e; exact hK' k (by omega)
    · exact hK k (by omega) s (by omega)
theorem Q4 (Q : Nat → Int → Option Bool) (p : Nat → Bool) {N : Nat} (hN : N ≤ 8) (h : ∀ s : Nat, s < 2 ^ N → Ev (fun k => Q k (s : Int)) (p s)) : Ev (fun k => vE (Q k) k (N : Int) [] 0) (ints ((List.range (2 ^ N)).filter p)) := by
  obtain ⟨K, hK⟩ := YW Q p (2 ^ N) h
  refine ⟨max K (2 ^ N + 1), fun k hk => ?_⟩
  have := Qn (Q k) p hN (hK k (by omega)) (2 ^ N) 0 k [] (by omega) (by omega) (by simp)
  rw [List.range_eq_range']
  simpa using this
end Go.Proofs.Yteggmbhcnhbamaa.L
end
section
namespace Go.Proofs.Yteggmbhcnhbamaa.L
open Go.RowKit Go.Proofs.Yteggmbhcnhbamaa.F Go.Proofs.YteggmbhcnhbamaaW.PrintWords Go.Proofs.YteggmbhcnhbamaaW.PrintLast Go.Proofs.YteggmbhcnhbamaaW.PrintMore
open Go.Proofs.Yteggmbhcnhbamaa.Bits
open Go.Proofs.Yteggmbhcnhbamaa.Mt (sdiff cnt full Mat jc rk ind yh qv)
set_option linter.unusedSimpArgs false
set_option linter.unusedVariables false
def Qv (B : List Nat) (s : Nat) : Bool := decide (rk B s = cnt s)
theorem Qk {N : Nat} {B : List Nat} (M : Mat N B) {s : Nat} (hs : s < 256) : Qv B s = true ↔ ind B s := by
  unfold Qv; rw [decide_eq_true_eq, ← yh M.ne hs]
section
variable {N : Nat} {B : List Nat}
theorem JO (M : Mat N B) (hl : B.length ≤ 17592186044416) {s : Nat} (hs : s < 256) (n : Int) : Ev (fun k => qm.f k n (ints B) (s : Int)) (Qv B s) := by
  unfold qm.f
  have h := jD (fun k i => qm.l0 k (s : Int) (ints B) ((ints B).length : Int) i) B.length (fun i r => decide (s &&& B.getD i 0 = s) || r) false
    (by simp only [qm.l0, zr, show ¬ ((B.length : Int) < (B.length : Int)) by omega, if_false]; exact Ev.now _) fun i hi r hr => by
      have hb := yj M.lt i hi
      have eb := vz i hi
      simp only [qm.l0, zr, show ((i : Int) < (B.length : Int)) by omega, show (0 : Int) ≤ (i : Int) by omega, if_true, eb, yX hs (jc M.size hb), Option.bind_some, decide_eq_true_eq, qo (show i < 9223372036854775807 by omega)]
      by_cases h : s &&& B.getD i 0 = s
      · simp only [h, if_true, decide_true, Bool.true_or]; exact Ev.now _
      · simp only [h, if_false, decide_false, Bool.false_or]; simpa [zr] using hr
  rw [Zt, Bool.or_false] at h
  have e : ((List.range B.length).any fun i => decide (s &&& B.getD i 0 = s)) = Qv B s := by
    rw [Bool.eq_iff_iff, Qk M hs, List.any_eq_true]
    constructor
    · rintro ⟨i, hi, h⟩
      rw [List.mem_range] at hi
      rw [decide_eq_true_eq] at h
      refine ⟨B.getD i 0, ?_, qv.2 h⟩
      rw [show B.getD i 0 = B[i] by simp [List.getElem?_eq_getElem hi]]; exact List.getElem_mem hi
    · rintro ⟨b, hb, h⟩
      obtain ⟨i, hi, rfl⟩ := List.getElem_of_mem hb
      refine ⟨i, List.mem_range.2 hi, ?_⟩
      rw [decide_eq_true_eq, show B.getD i 0 = B[i] by simp [List.getElem?_eq_getElem hi]]
      exact qv.1 h
  rw [e] at h
  exact h
end
end Go.Proofs.Yteggmbhcnhbamaa.L
end
section
namespace Go.Proofs.Yteggmbhcnhbamaa.L
open Go.RowKit Go.Proofs.Yteggmbhcnhbamaa.F Go.Proofs.YteggmbhcnhbamaaW.PrintWords Go.Proofs.YteggmbhcnhbamaaW.PrintLast Go.Proofs.YteggmbhcnhbamaaW.PrintMore
open Go.Proofs.Yteggmbhcnhbamaa.Bits
open Go.Proofs.Yteggmbhcnhbamaa.Mt (yR Zd yk Zq Qs)
set_option linter.unusedSimpArgs false
set_option linter.unusedVariables false
/-- The sets of a list, in order, each once. -/
def qQ (L : List Nat) : List Nat := (List.range 256).filter fun s => decide (s ∈ L)
theorem VK {L : List Nat} (h : L.Pairwise (· < ·)) : (ints L).Pairwise (· < ·) := by
  unfold ints
  rw [List.pairwise_map]
  exact h.imp fun h => by omega
theorem Yq {L : List Nat} {x : Int} : x ∈ ints L ↔ ∃ n, n ∈ L ∧ (n : Int) = x := by simp [ints]
theorem vN (p : Nat → Bool) (n : Nat) : ((List.range n).filter p).Pairwise (· < ·) := List.Pairwise.filter _ List.pairwise_lt_range
theorem jJ {L : List Nat} (hL : ∀ x ∈ L, x < 256) {s : Nat} : s ∈ qQ L ↔ s ∈ L := by
  unfold qQ
  rw [List.mem_filter, List.mem_range, decide_eq_true_eq]
  exact ⟨fun h => h.2, fun h => ⟨hL s h, h⟩⟩
theorem jG (L : List Nat) : (qQ L).Pairwise (· < ·) := vN _ _
theorem yP (L : List Nat) : (qQ L).length ≤ 256 := by
  have := List.length_filter_le (fun s => decide (s ∈ L)) (List.range 256)
  rwa [List.length_range] at this
theorem ZO {L : List Nat} (hL : ∀ x ∈ L, x < 256) : yR (ints L) = ints (qQ L) := Zd (VK (jG L)) fun x => by
  rw [Yq, Yq]
  exact ⟨fun ⟨n, h, e⟩ => ⟨n, (jJ hL).1 h, e⟩, fun ⟨n, h, e⟩ => ⟨n, (jJ hL).2 h, e⟩⟩
theorem vo : ∀ {l l' : List Nat}, l.Pairwise (· < ·) → l'.Pairwise (· < ·) → (∀ x, x ∈ l ↔ x ∈ l') → l = l'
  | [], [], _, _, _ => rfl
  | [], b :: _, _, _, hm => absurd ((hm b).2 (List.mem_cons_self ..)) (by simp)
  | a :: _, [], _, _, hm => absurd ((hm a).1 (List.mem_cons_self ..)) (by simp)
  | a :: l, b :: l', h, h', hm => by
    rw [List.pairwise_cons] at h h'
    have hab : a = b := by
      rcases List.mem_cons.1 ((hm a).1 (List.mem_cons_self ..)) with e | e
      · exact e
      · rcases List.mem_cons.1 ((hm b).2 (List.mem_cons_self ..)) with e' | e'
        · exact e'.symm
        · have := h'.1 a e; have := h.1 b e'; omega
    subst hab
    rw [vo h.2 h'.2 fun x => ⟨fun hx => by
      rcases List.mem_cons.1 ((hm x).1 (List.mem_cons_of_mem _ hx)) with e | e
      · subst e; have := h.1 x hx; omega
      · exact e, fun hx => by
      rcases List.mem_cons.1 ((hm x).2 (List.mem_cons_of_mem _ hx)) with e | e
      · subst e; have := h'.1 x hx; omega
      · exact e⟩]
/-- A sorted family is its own sorting. -/
theorem YV {L : List Nat} (hL : ∀ x ∈ L, x < 256) (h : L.Pairwise (· < ·)) : qQ L = L := vo (jG L) h fun _ => jJ hL
theorem y2 {L : List Nat} (hL : ∀ x ∈ L, x < 256) (h : L.Pairwise (· < ·)) : L.length ≤ 256 := by rw [← YV hL h]; exact yP L
theorem JY (s : List Int) (x : Int) (j : Nat) (h : s.Pairwise (· < ·)) (h1 : ∀ a ∈ s.take j, a < x) (h2 : ∀ a ∈ s.drop j, x < a) :
    (s.take j ++ [x] ++ s.drop j).Pairwise (· < ·) ∧ ∀ a, a ∈ s.take j ++ [x] ++ s.drop j ↔ a = x ∨ a ∈ s := by
  have e : s.take j ++ s.drop j = s := List.take_append_drop j s
  have hp : (s.take j ++ s.drop j).Pairwise (· < ·) := by rw [e]; exact h
  rw [List.pairwise_append] at hp
  constructor
  · rw [List.pairwise_append, List.pairwise_append]
    refine ⟨⟨hp.1, by simp, fun a ha b hb => ?_⟩, hp.2.1, fun a ha b hb => ?_⟩
    · simp only [List.mem_singleton] at hb; subst hb; exact h1 a ha
    · rcases List.mem_append.1 ha with ha | ha
      · exact hp.2.2 a ha b hb
      · simp only [List.mem_singleton] at ha; subst ha; exact h2 b hb
  · intro a
    have hm : a ∈ s ↔ a ∈ s.take j ∨ a ∈ s.drop j := by
      have := List.mem_append (a := a) (s := s.take j) (t := s.drop j)
      rwa [e] at this
    rw [hm]
    simp only [List.mem_append, List.mem_singleton]
    constructor
    · rintro ((h | h) | h)
      · exact .inr (.inl h)
      · exact .inl h
      · exact .inr (.inr h)
    · rintro (h | h | h)
      · exact .inl (.inr h)
      · exact .inl (.inl h)
      · exact .inr h
theorem Q9 (l s : List Int) (i : Nat) (hi : i < l.length) (hl : l.length < 17592186044416) (hs : s.Pairwise (· < ·)) (hlen : s.length ≤ i) (r : List Int)
    (hcont : ∀ s' : List Int, s'.Pairwise (· < ·) → (∀ a, a ∈ s' ↔ a = l.getD i 0 ∨ a ∈ s) → s'.length ≤ i + 1 → Ev (fun k => zk.l0 k l s' ((i + 1 : Nat) : Int)) r) :
    ∀ (d j : Nat), j + d = s.length → (∀ a ∈ s.take j, a < l.getD i 0) → Ev (fun k => zk.l1 k l s (i : Int) (j : Int)) r
  | 0, j, hd, h1 => by
    have hj : j = s.length := by omega
    subst hj
    have hf := JY s (l.getD i 0) s.length hs h1 (by simp)
    have hl1 := hcont _ hf.1 hf.2 (by simp; omega)
    refine Ev.succ ?_
    simp only [zk.l1, show ¬ ((s.length : Int) < (s.length : Int)) by omega, if_false, Option.bind_some, show (0 : Int) ≤ (s.length : Int) by omega, show (s.length : Int) ≤ (s.length : Int) by omega, if_true, Int.toNat_natCast,
      show (0 : Int) ≤ (i : Int) by omega, show (i : Int) < (l.length : Int) by omega, jH, List.nil_append, List.length_nil, Nat.zero_add, qo (show i < 9223372036854775807 by omega)]
    simp only [show (s.drop s.length).length < 17592186044416 by simp, show (s.take s.length).length < 17592186044416 by simp; omega, if_true,
      show (s.take s.length ++ [l.getD i 0]).length + (s.drop s.length).length < 17592186044416 by simp; omega]
    exact hl1
  | d + 1, j, hd, h1 => by
    have hj : j < s.length := by omega
    have e1 : s.getD j 0 = s[j] := by simp [List.getElem?_eq_getElem hj]
    refine Ev.succ ?_
    simp only [zk.l1, show ((j : Int) < (s.length : Int)) by omega, if_true, show (0 : Int) ≤ (j : Int) by omega, show (0 : Int) ≤ (i : Int) by omega, show (i : Int) < (l.length : Int) by omega, jH,
      qo (show i < 9223372036854775807 by omega), qo (show j < 9223372036854775807 by omega)]
    by_cases c : s.getD j 0 < l.getD i 0
    · simp only [c, if_true]
      refine Q9 l s i hi hl hs hlen r hcont d (j + 1) (by omega) fun a ha => ?_
      rw [List.take_succ_eq_append_getElem hj, List.mem_append] at ha
      rcases ha with ha | ha
      · exact h1 a ha
      · simp only [List.mem_singleton] at ha; subst ha; rw [← e1]; exact c
    · simp only [c, if_false]
      by_cases c2 : s.getD j 0 = l.getD i 0
      · simp only [c2, if_true]
        refine hcont s hs (fun a => ⟨.inr, fun h => ?_⟩) (by omega)
        rcases h with h | h
        · rw [h, ← c2, e1]; exact List.getElem_mem hj
        · exact h
      · simp only [c2, if_false]
        have h2 : ∀ a ∈ s.drop j, l.getD i 0 < a := fun a ha => by
          rw [List.drop_eq_getElem_cons hj] at ha
          rcases List.mem_cons.1 ha with ha | ha
          · subst ha; rw [e1] at c c2; omega
          · have hp : (s.drop j).Pairwise (· < ·) := List.Pairwise.drop hs
            rw [List.drop_eq_getElem_cons hj, List.pairwise_cons] at hp
            have := hp.1 a ha
            rw [e1] at c c2; omega
        have hf := JY s (l.getD i 0) j hs h1 h2
        have hl1 := hcont _ hf.1 hf.2 (by simp; omega)
        simp only [Option.bind_some, show (j : Int) ≤ (s.length : Int) by omega, if_true, Int.toNat_natCast, List.nil_append, List.length_nil, Nat.zero_add]
        simp only [show (s.drop j).length < 17592186044416 by simp; omega, show (s.take j).length < 17592186044416 by simp; omega, if_true,
          show (s.take j ++ [l.getD i 0]).length + (s.drop j).length < 17592186044416 by simp; omega]
        exact hl1
theorem Jc (l : List Int) (hl : l.length < 17592186044416) : ∀ (d i : Nat) (s : List Int), i + d = l.length → s.Pairwise (· < ·) → (∀ a, a ∈ s ↔ a ∈ l.take i) → s.length ≤ i → Ev (fun k => zk.l0 k l s (i : Int)) (yR l)
  | 0, i, s, hd, hs, hm, _ => by
    have hi : i = l.length := by omega
    subst hi
    rw [List.take_length] at hm
    refine Ev.succ ?_
    simp only [zk.l0, show ¬ ((l.length : Int) < (l.length : Int)) by omega, if_false]
    exact Ev.some (Zd hs hm).symm
  | d + 1, i, s, hd, hs, hm, hlen => by
    have hi : i < l.length := by omega
    refine Ev.succ ?_
    simp only [zk.l0, show ((i : Int) < (l.length : Int)) by omega, if_true]
    refine Q9 l s i hi hl hs hlen _ (fun s' h1 h2 h3 => ?_) s.length 0 (by omega) (by simp)
    refine Jc l hl d (i + 1) s' (by omega) h1 (fun a => ?_) h3
    rw [h2, hm, List.take_succ_eq_append_getElem hi, List.mem_append, List.mem_singleton, show l.getD i 0 = l[i] by simp [List.getElem?_eq_getElem hi]]
    exact ⟨fun h => h.elim .inr .inl, fun h => h.elim .inr .inl⟩
theorem VS (l : List Int) (hl : l.length < 17592186044416) : Ev (fun k => zk.f k l) (yR l) := by
  unfold zk.f
  exact Jc l hl l.length 0 [] (by omega) (by simp) (by simp) (by simp)
theorem V2 {L : List Nat} (hL : ∀ x ∈ L, x < 256) (hl : L.length < 17592186044416) : Ev (fun k => zk.f k (ints L)) (ints (qQ L)) := by
  rw [← ZO hL]; exact VS _ (by rw [zr]; exact hl)
end Go.Proofs.Yteggmbhcnhbamaa.L
end
section
namespace Go.Proofs.Yteggmbhcnhbamaa.L
open Go.RowKit Go.Proofs.Yteggmbhcnhbamaa.F Go.Proofs.YteggmbhcnhbamaaW.PrintWords Go.Proofs.YteggmbhcnhbamaaW.PrintLast Go.Proofs.YteggmbhcnhbamaaW.PrintMore
open Go.Proofs.Yteggmbhcnhbamaa.Bits
open Go.Proofs.Yteggmbhcnhbamaa.Mt (yR Zd yk Zq Qs sdiff sub qv vt)
set_option linter.unusedSimpArgs false
set_option linter.unusedVariables false
/-- Is no other set of the list within s? -/
def least (L : List Nat) (s : Nat) : Bool := L.all fun t => decide (t = s) || !decide (t &&& s = t)
/-- The least sets of a list, in order. -/
def ZR (L : List Nat) : List Nat := (List.range 256).filter fun s => decide (s ∈ L) && least L s
theorem yD (L : List Nat) : (ZR L).Pairwise (· < ·) := vN _ _
theorem QW (L : List Nat) : (ZR L).length ≤ 256 := by
  have := List.length_filter_le (fun s => decide (s ∈ L) && least L s) (List.range 256)
  rwa [List.length_range] at this
theorem Z1 {L : List Nat} (hL : ∀ x ∈ L, x < 256) {s : Nat} : s ∈ ZR L ↔ s ∈ L ∧ ∀ t ∈ L, sub t s → t = s := by
  unfold ZR least
  rw [List.mem_filter, List.mem_range, Bool.and_eq_true, decide_eq_true_eq, List.all_eq_true]
  constructor
  · rintro ⟨_, h1, h2⟩
    refine ⟨h1, fun t ht hs => ?_⟩
    have := h2 t ht
    rw [qv] at hs
    simpa [hs] using this
  · rintro ⟨h1, h2⟩
    refine ⟨hL s h1, h1, fun t ht => ?_⟩
    by_cases hs : t &&& s = t
    · simp [h2 t ht (qv.2 hs)]
    · simp [hs]
theorem vV {L : List Nat} (i : Nat) (hi : i < L.length) : (ints L).getD i 0 = ((L.getD i 0 : Nat) : Int) := by simp [ints, List.getElem?_eq_getElem hi]
theorem ZE (L : List Nat) (p : Nat → Bool) : (List.range L.length).all (fun i => p (L.getD i 0)) = L.all p := Jy L 0 p
theorem Zc {p : Nat → Bool} (L : List Nat) (i : Nat) (hi : i < L.length) : (L.take (i + 1)).filter p = if p (L.getD i 0) = true then (L.take i).filter p ++ [L.getD i 0] else (L.take i).filter p := by
  rw [List.take_succ_eq_append_getElem hi, List.filter_append, show L.getD i 0 = L[i] by simp [List.getElem?_eq_getElem hi]]
  cases h : p L[i] <;> simp [h]
theorem Y8 {L : List Nat} (hL : ∀ x ∈ L, x < 256) (hl : L.length ≤ 17592186044416) : Ev (fun k => z6.f k 8 (ints L)) true := by
  unfold z6.f
  have h := yT (fun k i => z6.l0 k 8 (ints L) i) L.length (fun _ => true)
    (fun k => by simp only [z6.l0, zr, show ¬ ((L.length : Int) < (L.length : Int)) by omega, if_false])
    (fun i hi k => by
      have hlt : L.getD i 0 < 256 := by rw [show L.getD i 0 = L[i] by simp [List.getElem?_eq_getElem hi]]; exact hL _ (List.getElem_mem hi)
      simp only [z6.l0, zr, show ((i : Int) < (L.length : Int)) by omega, show (0 : Int) ≤ (i : Int) by omega, if_true, jH, vV i hi, Vg, Option.bind_some, decide_eq_true_eq, qo (show i < 9223372036854775807 by omega)]
      rw [if_pos ⟨by omega, by omega, by omega, by
        have e : (2 : Int) ^ (8 : Int).toNat = 256 := by decide
        rw [e]; omega⟩])
  have e : (List.range L.length).all (fun _ => true) = true := by simp
  rw [e] at h
  exact h
theorem Y9 {L : List Nat} (hL : ∀ x ∈ L, x < 256) (hl : L.length < 17592186044416) (out : List Int) (i : Nat) (hi : i < L.length) (r : List Int)
    (hcont : Ev (fun k => zy.l0 k (ints L) (if least L (L.getD i 0) = true then out ++ [((L.getD i 0 : Nat) : Int)] else out) ((i + 1 : Nat) : Int)) r) (hout : out.length ≤ i) :
    Ev (fun k => zy.l1 k (ints L) out (i : Int) true 0) r := by
  have hi8 : L.getD i 0 < 256 := by rw [show L.getD i 0 = L[i] by simp [List.getElem?_eq_getElem hi]]; exact hL _ (List.getElem_mem hi)
  have key := j3 (fun k (b : Bool) j => zy.l1 k (ints L) out (i : Int) b j) L.length (fun b j => b && (decide (L.getD j 0 = L.getD i 0) || !decide (L.getD j 0 &&& L.getD i 0 = L.getD j 0))) (fun _ _ => True)
    (fun j b hj _ => ⟨trivial, fun r hr => by
      have hj8 : L.getD j 0 < 256 := by rw [show L.getD j 0 = L[j] by simp [List.getElem?_eq_getElem hj]]; exact hL _ (List.getElem_mem hj)
      simp only [zy.l1, zr, show ((j : Int) < (L.length : Int)) by omega, show (0 : Int) ≤ (j : Int) by omega, show (0 : Int) ≤ (i : Int) by omega, show (i : Int) < (L.length : Int) by omega, if_true, jH, vV i hi, vV j hj,
        qo (show j < 9223372036854775807 by omega)]
      generalize L.getD j 0 = t at hj8 hr ⊢
      generalize L.getD i 0 = s at hi8 hr ⊢
      cases b with
      | false => simp only [Bool.false_eq_true, if_false]; simpa using hr
      | true =>
        simp only [if_true]
        by_cases e : t = s
        · subst e; simp only [if_true]; simpa using hr
        · simp only [show ¬ ((t : Int) = (s : Int)) by omega, if_false, yN t s (by omega) (by omega)]
          rw [show ((((t &&& s : Nat) : Int) != (t : Int)) = !decide (t &&& s = t)) by
            rw [Bool.eq_iff_iff, bne_iff_ne, Bool.not_eq_true', decide_eq_false_iff_not]; omega]
          simpa [e] using hr⟩) true trivial
  refine key.2 _ (Ev.succ ?_)
  have hfold : ∀ (l : List Nat) (b : Bool) (p : Nat → Bool), l.foldl (fun b j => b && p j) b = (b && l.all p) := by
    intro l
    induction l with
    | nil => intro b p; simp
    | cons a l ih => intro b p; rw [List.foldl_cons, ih, List.all_cons, Bool.and_assoc]
  rw [hfold, Bool.true_and, ZE L (fun t => decide (t = L.getD i 0) || !decide (t &&& L.getD i 0 = t))]
  have ef : (L.all fun t => decide (t = L.getD i 0) || !decide (t &&& L.getD i 0 = t)) = least L (L.getD i 0) := rfl
  rw [ef]
  simp only [zy.l1, zr, show ¬ ((L.length : Int) < (L.length : Int)) by omega, if_false, show (0 : Int) ≤ (i : Int) by omega, show (i : Int) < (L.length : Int) by omega, if_true, jH, vV i hi,
    qo (show i < 9223372036854775807 by omega), show out.length < 17592186044416 by omega]
  cases hf : least L (L.getD i 0)
  · rw [hf] at hcont; simpa using hcont
  · rw [hf] at hcont; simpa using hcont
theorem JP {L : List Nat} (hL : ∀ x ∈ L, x < 256) (hl : L.length < 17592186044416) : Ev (fun k => zy.f k (ints L)) (ints (ZR L)) := by
  unfold zy.f
  simp only [Option.bind_some]
  refine Ev.bind (Y8 hL (by omega)) ?_
  simp only [if_true]
  have hlen : ∀ i, (ints ((L.take i).filter (least L))).length ≤ i := fun i => by
    have := List.length_filter_le (least L) (L.take i)
    rw [List.length_take] at this
    rw [zr]; omega
  have key := j3 (fun k out i => zy.l0 k (ints L) out i) L.length (fun out i => if least L (L.getD i 0) = true then out ++ [((L.getD i 0 : Nat) : Int)] else out) (fun i out => out = ints ((L.take i).filter (least L)))
    (fun i out hi ho => ⟨by
      rw [Zc L i hi, ho]
      split <;> simp [ints], fun r hr => by
      simp only [zy.l0, zr, show ((i : Int) < (L.length : Int)) by omega, if_true]
      exact Y9 hL hl out i hi r hr (by rw [ho]; exact hlen i)⟩) [] (by simp [ints])
  refine key.2 _ (Ev.succ ?_)
  rw [key.1, List.take_length]
  simp only [zy.l0, zr, show ¬ ((L.length : Int) < (L.length : Int)) by omega, if_false]
  have hf : ∀ x ∈ L.filter (least L), x < 256 := fun x hx => hL x (List.mem_filter.1 hx).1
  have hs := V2 hf (by have := List.length_filter_le (least L) L; omega)
  have e : qQ (L.filter (least L)) = ZR L := vo (jG _) (yD L) fun s => by
    rw [jJ hf, Z1 hL, List.mem_filter]
    unfold least
    rw [List.all_eq_true]
    constructor
    · rintro ⟨h1, h2⟩
      refine ⟨h1, fun t ht hts => ?_⟩
      have := h2 t ht
      rw [qv] at hts
      simpa [hts] using this
    · rintro ⟨h1, h2⟩
      refine ⟨h1, fun t ht => ?_⟩
      by_cases hts : t &&& s = t
      · simp [h2 t ht (qv.2 hts)]
      · simp [hts]
  rw [e] at hs
  exact Ev.bind hs (Ev.now _)
theorem J9 {L : List Nat} (hL : ∀ x ∈ L, x < 256) (hl : L.length ≤ 17592186044416) : Ev (fun k => qI.f k (ints L)) true := by
  unfold qI.f
  rw [zr]
  have h := yT (fun k i => qI.l0 k (ints L) (L.length : Int) i) L.length (fun _ => true)
    (fun k => by simp only [qI.l0, show ¬ ((L.length : Int) < (L.length : Int)) by omega, if_false])
    (fun i hi k => by
      have hlt : L.getD i 0 < 256 := by rw [show L.getD i 0 = L[i] by simp [List.getElem?_eq_getElem hi]]; exact hL _ (List.getElem_mem hi)
      simp only [qI.l0, zr, show ((i : Int) < (L.length : Int)) by omega, show (0 : Int) ≤ (i : Int) by omega, if_true, jH, vV i hi, Qf, Option.bind_some, qo (show i < 9223372036854775807 by omega)]
      rw [Qo hlt, if_pos rfl])
  have e : (List.range L.length).all (fun _ => true) = true := by simp
  rw [e] at h
  exact h
theorem QM (q : Int → Option Bool) (p : Nat → Bool) : ∀ L : List Nat, (∀ t ∈ L, q (t : Int) = some (p t)) → Zv q (ints L) = some (L.any p)
  | [], _ => rfl
  | t :: L, h => by
    have h1 := h t (List.mem_cons_self ..)
    have h2 := QM q p L fun s hs => h s (List.mem_cons_of_mem _ hs)
    simp only [ints, List.map_cons, Zv, List.any_cons] at h2 ⊢
    rw [h1, Option.bind_some]
    cases p t
    · simpa using h2
    · simp
theorem Jw {L : List Nat} (hL : ∀ x ∈ L, x < 256) (hl : L.length ≤ 17592186044416) (k : Nat) : q6.f k (ints L) = some (ints (qQ L)) := by
  unfold q6.f
  rw [zr, if_pos hl, ZO hL]
theorem JC {L : List Nat} (hL : ∀ x ∈ L, x < 256) (hl : L.length ≤ 17592186044416) : Ev (fun k => zO.f k (ints L)) (ints (ZR L)) := by
  unfold zO.f
  rw [zr]
  simp only [hl, if_true]
  refine Ev.bind (J9 hL hl) ?_
  simp only [if_true, Jw hL hl, Option.bind_some]
  have hS := yP L
  have hlen : ∀ i, (ints (((qQ L).take i).filter (least L))).length ≤ i := fun i => by
    have := List.length_filter_le (least L) ((qQ L).take i)
    rw [List.length_take] at this
    rw [zr]; omega
  have key := j3 (fun k out i => zO.l0 k (ints L) out (ints (qQ L)) i) (qQ L).length (fun out i => if least L ((qQ L).getD i 0) = true then out ++ [(((qQ L).getD i 0 : Nat) : Int)] else out) (fun i out => out = ints (((qQ L).take i).filter (least L)))
    (fun i out hi ho => ⟨by
      rw [Zc (qQ L) i hi, ho]
      split <;> simp [ints], fun r hr => by
      have hout : out.length < 17592186044416 := by have := hlen i; rw [← ho] at this; omega
      have hs8 : (qQ L).getD i 0 < 256 := by
        rw [show (qQ L).getD i 0 = (qQ L)[i] by simp [List.getElem?_eq_getElem hi]]
        exact hL _ ((jJ hL).1 (List.getElem_mem hi))
      have hq : Zv (zO.q (((qQ L).getD i 0 : Nat) : Int)) (ints L) = some (!least L ((qQ L).getD i 0)) := by
        generalize (qQ L).getD i 0 = s at hs8
        have := QM (zO.q (s : Int)) (fun t => !(decide (t = s) || !decide (t &&& s = t))) L fun t ht => by
          unfold zO.q
          by_cases e : t = s
          · subst e; simp
          · rw [if_neg (by omega), yX (hL t ht) hs8]; simp [e]
        rw [this]
        unfold least
        rw [List.not_all_eq_any_not]
      simp only [zO.l0, zr, show ((i : Int) < ((qQ L).length : Int)) by omega, show (0 : Int) ≤ (i : Int) by omega, if_true, jH, vV i hi, qo (show i < 9223372036854775807 by omega), hq, Option.bind_some]
      cases h : least L ((qQ L).getD i 0)
      · rw [h] at hr; simpa using hr
      · rw [h] at hr; simp only [if_true] at hr; simpa [hout] using hr⟩) [] (by simp [ints])
  refine key.2 _ (Ev.succ ?_)
  rw [key.1, List.take_length]
  simp only [zO.l0, zr, show ¬ (((qQ L).length : Int) < ((qQ L).length : Int)) by omega, if_false]
  refine Ev.some (congrArg ints ?_)
  refine vo (List.Pairwise.filter _ (jG L)) (yD L) fun s => ?_
  rw [Z1 hL, List.mem_filter, jJ hL]
  unfold least
  rw [List.all_eq_true]
  constructor
  · rintro ⟨h1, h2⟩
    refine ⟨h1, fun t ht hts => ?_⟩
    have := h2 t ht
    rw [qv] at hts
    simpa [hts] using this
  · rintro ⟨h1, h2⟩
    refine ⟨h1, fun t ht => ?_⟩
    by_cases hts : t &&& s = t
    · simp [h2 t ht (qv.2 hts)]
    · simp [hts]
end Go.Proofs.Yteggmbhcnhbamaa.L
end
section
namespace Go.Proofs.Yteggmbhcnhbamaa.L
open Go.RowKit Go.Proofs.Yteggmbhcnhbamaa.F Go.Proofs.YteggmbhcnhbamaaW.PrintWords Go.Proofs.YteggmbhcnhbamaaW.PrintLast Go.Proofs.YteggmbhcnhbamaaW.PrintMore
open Go.Proofs.Yteggmbhcnhbamaa.Bits
open Go.Proofs.Yteggmbhcnhbamaa.Mt (yR Zd yk Zq Qs sdiff sub qv vt)
set_option linter.unusedSimpArgs false
set_option linter.unusedVariables false
/-- Does no other set of the list hold s? -/
def jP (L : List Nat) (s : Nat) : Bool := L.all fun t => decide (t = s) || !decide (t &&& s = s)
/-- The jP sets of a list, in order. -/
def y6 (L : List Nat) : List Nat := (List.range 256).filter fun s => decide (s ∈ L) && jP L s
theorem Qz (L : List Nat) : (y6 L).Pairwise (· < ·) := vN _ _
theorem Jm (L : List Nat) : (y6 L).length ≤ 256 := by
  have := List.length_filter_le (fun s => decide (s ∈ L) && jP L s) (List.range 256)
  rwa [List.length_range] at this
theorem Z0 {L : List Nat} (hL : ∀ x ∈ L, x < 256) {s : Nat} : s ∈ y6 L ↔ s ∈ L ∧ ∀ t ∈ L, sub s t → t = s := by
  unfold y6 jP
  rw [List.mem_filter, List.mem_range, Bool.and_eq_true, decide_eq_true_eq, List.all_eq_true]
  constructor
  · rintro ⟨_, h1, h2⟩
    refine ⟨h1, fun t ht hs => ?_⟩
    have := h2 t ht
    rw [qv, Nat.and_comm] at hs
    simpa [hs] using this
  · rintro ⟨h1, h2⟩
    refine ⟨hL s h1, h1, fun t ht => ?_⟩
    by_cases hs : t &&& s = s
    · simp [h2 t ht (qv.2 (by rw [Nat.and_comm]; exact hs))]
    · simp [hs]
theorem JG {L : List Nat} (hL : ∀ x ∈ L, x < 256) (hl : L.length ≤ 17592186044416) : Ev (fun k => zP.f k (ints L)) (ints (y6 L)) := by
  unfold zP.f
  rw [zr]
  simp only [hl, if_true]
  refine Ev.bind (J9 hL hl) ?_
  simp only [if_true, Jw hL hl, Option.bind_some]
  have hS := yP L
  have hlen : ∀ i, (ints (((qQ L).take i).filter (jP L))).length ≤ i := fun i => by
    have := List.length_filter_le (jP L) ((qQ L).take i)
    rw [List.length_take] at this
    rw [zr]; omega
  have key := j3 (fun k out i => zP.l0 k (ints L) out (ints (qQ L)) i) (qQ L).length (fun out i => if jP L ((qQ L).getD i 0) = true then out ++ [(((qQ L).getD i 0 : Nat) : Int)] else out) (fun i out => out = ints (((qQ L).take i).filter (jP L)))
    (fun i out hi ho => ⟨by
      rw [Zc (qQ L) i hi, ho]
      split <;> simp [ints], fun r hr => by
      have hout : out.length < 17592186044416 := by have := hlen i; rw [← ho] at this; omega
      have hs8 : (qQ L).getD i 0 < 256 := by
        rw [show (qQ L).getD i 0 = (qQ L)[i] by simp [List.getElem?_eq_getElem hi]]
        exact hL _ ((jJ hL).1 (List.getElem_mem hi))
      have hq : Zv (zP.q (((qQ L).getD i 0 : Nat) : Int)) (ints L) = some (!jP L ((qQ L).getD i 0)) := by
        generalize (qQ L).getD i 0 = s at hs8
        have := QM (zP.q (s : Int)) (fun t => !(decide (t = s) || !decide (t &&& s = s))) L fun t ht => by
          unfold zP.q
          by_cases e : t = s
          · subst e; simp
          · rw [if_neg (by omega), yX hs8 (hL t ht), Nat.and_comm]; simp [e]
        rw [this]
        unfold jP
        rw [List.not_all_eq_any_not]
      simp only [zP.l0, zr, show ((i : Int) < ((qQ L).length : Int)) by omega, show (0 : Int) ≤ (i : Int) by omega, if_true, jH, vV i hi, qo (show i < 9223372036854775807 by omega), hq, Option.bind_some]
      cases h : jP L ((qQ L).getD i 0)
      · rw [h] at hr; simpa using hr
      · rw [h] at hr; simp only [if_true] at hr; simpa [hout] using hr⟩) [] (by simp [ints])
  refine key.2 _ (Ev.succ ?_)
  rw [key.1, List.take_length]
  simp only [zP.l0, zr, show ¬ (((qQ L).length : Int) < ((qQ L).length : Int)) by omega, if_false]
  refine Ev.some (congrArg ints ?_)
  refine vo (List.Pairwise.filter _ (jG L)) (Qz L) fun s => ?_
  rw [Z0 hL, List.mem_filter, jJ hL]
  unfold jP
  rw [List.all_eq_true]
  constructor
  · rintro ⟨h1, h2⟩
    refine ⟨h1, fun t ht hts => ?_⟩
    have := h2 t ht
    rw [qv, Nat.and_comm] at hts
    simpa [hts] using this
  · rintro ⟨h1, h2⟩
    refine ⟨h1, fun t ht => ?_⟩
    by_cases hts : t &&& s = s
    · simp [h2 t ht (qv.2 (by rw [Nat.and_comm]; exact hts))]
    · simp [hts]
end Go.Proofs.Yteggmbhcnhbamaa.L
end
section
namespace Go.Proofs.Yteggmbhcnhbamaa.F
open Go.RowKit Go.Proofs.YteggmbhcnhbamaaW.PrintWords Go.Proofs.YteggmbhcnhbamaaW.PrintLast Go.Proofs.YteggmbhcnhbamaaW.PrintMore
attribute [local go_sem] qJ qM q2 q4 qy qx qL qK   -- for this text's walks alone
set_option linter.unusedVariables false
set_option linter.unusedSimpArgs false

def vG.f (l0 : List Int) (a1 : Int) : Option (Int) := if (wrap64 (a1 - (l0.length : Int))) < 0 then (some (-1)) else (some (wrap64 (a1 - (l0.length : Int))))
theorem vG.calls (A0 : Option Addr) (c0 : Nat) (l0 : List Int) (a1 : Int) (r : Int) (w : World) (hr0 : Kd.C (Kd.int .i64) w A0 l0.length l0) (hc0 : l0.length ≤ c0) (h : vG.f l0 a1 = some r) :
  Calls Try.prog 36 #[.slice A0 l0.length c0, .int .i64 a1] w fun e w' => e = .returned (.int .i64 r) ∧ zm w w' := by
 have HR0 := Aside0.mk hr0
 have HC0 := Aside0.mk hc0
 clear hr0 hc0
 have H : (if (wrap64 (a1 - (l0.length : Int))) < 0 then (some (-1)) else (some (wrap64 (a1 - (l0.length : Int))))) = some r := h
 clear h
 by_cases c3 : (wrap64 (a1 - (l0.length : Int))) < 0
 ·rw [if_pos c3] at H
  have c3b0 : decide ((wrap64 (a1 - (l0.length : Int))) < 0) = true := decide_eq_true c3
  clear c3
  obtain rfl := Option.some.inj H
  go_enter Try.func36, Try.ntmps36
  go_wp2
  go_ret
  exact ⟨sqD, by repeat (first | exact zm.refl _ | apply zm.step)⟩
 ·rw [if_neg c3] at H
  have c3b0 : decide ((wrap64 (a1 - (l0.length : Int))) < 0) = false := decide_eq_false c3
  clear c3
  obtain rfl := Option.some.inj H
  go_enter Try.func36, Try.ntmps36
  go_wp2
  go_ret
  exact ⟨sqD, by repeat (first | exact zm.refl _ | apply zm.step)⟩

def y9.f (a0_0 : Int) (l0_1 : List Int) (a1 : Int) : Option (Int) := (vG.f l0_1 a1).bind fun t102 => (if t102 < 0 then (some (-1)) else (some t102))
theorem y9.calls (a0_0 : Int) (A0_1 : Option Addr) (c0_1 : Nat) (l0_1 : List Int) (a1 : Int) (r : Int) (w : World) (hr0_1 : Kd.C (Kd.int .i64) w A0_1 l0_1.length l0_1) (hc0_1 : l0_1.length ≤ c0_1) (h : y9.f a0_0 l0_1 a1 = some r) :
  Calls Try.prog 11 #[.agg #[.int .i64 a0_0, .slice A0_1 l0_1.length c0_1], .int .i64 a1] w fun e w' => e = .returned (.int .i64 r) ∧ Below w.heap.size w w' := by
 have hu24 := Try.underlying24
 have HR0_1 := Aside0.mk hr0_1
 have HC0_1 := Aside0.mk hc0_1
 clear hr0_1 hc0_1
 have HB := Aside0.mk (Below.refl w.heap.size w)
 have H : ((vG.f l0_1 a1).bind fun t102 => (if t102 < 0 then (some (-1)) else (some t102))) = some r := h
 clear h
 replace H := Option.bind_eq_some_iff.mp H
 obtain ⟨t102, A30, H⟩ := H
 replace H : (if t102 < 0 then (some (-1)) else (some t102)) = some r := H
 have A3 := Aside0.mk A30
 clear A30
 by_cases c4 : t102 < 0
 ·rw [if_pos c4] at H
  have c4b0 : decide (t102 < 0) = true := decide_eq_true c4
  clear c4
  obtain rfl := Option.some.inj H
  go_enter Try.func11, Try.ntmps11
  go_wp2_with (first | ((with_reducible refine zi (N := 2) rfl ?_); refine zl ?hg (N := 2) ?hd (cs := #[.int .i64 a0_0, .slice A0_1 l0_1.length c0_1]) (t := 24) ?hr ?_; (case hd => rfl); (case hg => rfl); (case hr => exact sqG); intro gb101 hg w5 hbox hb; have n0_ := Aside0.mk (zc sqB hb); have n1_ := Aside0.mk (hbox); have n2_ := Aside0.mk ((sqS hg : w.heap.size ≤ gb101)); have n3_ := Aside0.mk ((sqS hg : w.heap.size ≤ gb101)); clear HB; have HB := n0_; have BK101 := n1_; have GW101 := n2_; have GE101 := n3_; clear n0_ n1_ n2_ n3_; clear hb hbox hg; have hcz6_0 : w5.cell? ⟨gb101, 0, none⟩ = some (.int .i64 a0_0) := (zb BK101.out 0).trans rfl; have hcz6_1 : w5.cell? ⟨gb101, 1, none⟩ = some (.slice A0_1 l0_1.length c0_1) := (zb BK101.out 1).trans rfl; have hfz6_0 := za BK101.out 0; have hfz6_1 := za BK101.out 1) | ((with_reducible refine zd (f := 36) rfl ?_); refine zn (some 8) rfl rfl Try.func36 (by kernel_rfl) rfl #[.slice A0_1 l0_1.length c0_1, .int .i64 a1] rfl sqM ?_; (with_reducible refine (vG.calls _ _ l0_1 a1 t102 _ ?side1 ?side2 A3.out).mono ?_); (case side1 => exact sqC (Kd.zp HR0_1.out HB.out)); (case side2 => exact HC0_1.out); rintro e w' ⟨rfl, ⟨nd, rfl⟩⟩; refine ⟨_, rfl, ?_⟩))
  go_ret
  exact ⟨sqE, sqB⟩
 ·rw [if_neg c4] at H
  have c4b0 : decide (t102 < 0) = false := decide_eq_false c4
  clear c4
  obtain rfl := Option.some.inj H
  go_enter Try.func11, Try.ntmps11
  go_wp2_with (first | ((with_reducible refine zi (N := 2) rfl ?_); refine zl ?hg (N := 2) ?hd (cs := #[.int .i64 a0_0, .slice A0_1 l0_1.length c0_1]) (t := 24) ?hr ?_; (case hd => rfl); (case hg => rfl); (case hr => exact sqG); intro gb101 hg w7 hbox hb; have n0_ := Aside0.mk (zc sqB hb); have n1_ := Aside0.mk (hbox); have n2_ := Aside0.mk ((sqS hg : w.heap.size ≤ gb101)); have n3_ := Aside0.mk ((sqS hg : w.heap.size ≤ gb101)); clear HB; have HB := n0_; have BK101 := n1_; have GW101 := n2_; have GE101 := n3_; clear n0_ n1_ n2_ n3_; clear hb hbox hg; have hcz8_0 : w7.cell? ⟨gb101, 0, none⟩ = some (.int .i64 a0_0) := (zb BK101.out 0).trans rfl; have hcz8_1 : w7.cell? ⟨gb101, 1, none⟩ = some (.slice A0_1 l0_1.length c0_1) := (zb BK101.out 1).trans rfl; have hfz8_0 := za BK101.out 0; have hfz8_1 := za BK101.out 1) | ((with_reducible refine zd (f := 36) rfl ?_); refine zn (some 8) rfl rfl Try.func36 (by kernel_rfl) rfl #[.slice A0_1 l0_1.length c0_1, .int .i64 a1] rfl sqM ?_; (with_reducible refine (vG.calls _ _ l0_1 a1 t102 _ ?side1 ?side2 A3.out).mono ?_); (case side1 => exact sqC (Kd.zp HR0_1.out HB.out)); (case side2 => exact HC0_1.out); rintro e w' ⟨rfl, ⟨nd, rfl⟩⟩; refine ⟨_, rfl, ?_⟩))
  go_ret
  exact ⟨sqE, sqB⟩

def Ze.f (k : Nat) (a0_0 : Int) (l0_1 : List Int) : Option (Int × List Int) := (qg.f k l0_1).bind fun t204 => (some (a0_0, t204))
theorem Ze.calls (k : Nat) (a0_0 : Int) (A0_1 : Option Addr) (c0_1 : Nat) (l0_1 : List Int) (r1 : Int) (r2 : List Int) (w : World) (hr0_1 : Kd.C (Kd.int .i64) w A0_1 l0_1.length l0_1) (hc0_1 : l0_1.length ≤ c0_1) (h : Ze.f k a0_0 l0_1 = some (r1, r2)) :
  Calls Try.prog 13 #[.agg #[.int .i64 a0_0, .slice A0_1 l0_1.length c0_1]] w fun e w' => ∃ v1_ : Value, e = .returned (.agg #[.int .i64 r1, v1_]) ∧ Kd.R (Kd.int .i64) 3 w' w.heap.size (fun _ => True) v1_ r2 ∧ Below w.heap.size w w' := by
 have hu24 := Try.underlying24
 have hu27 := Try.underlying27
 have HR0_1 := Aside0.mk hr0_1
 have HC0_1 := Aside0.mk hc0_1
 clear hr0_1 hc0_1
 have HB := Aside0.mk (Below.refl w.heap.size w)
 have H : ((qg.f k l0_1).bind fun t204 => (some (a0_0, t204))) = some (r1, r2) := h
 clear h
 replace H := Option.bind_eq_some_iff.mp H
 obtain ⟨t204, A20, H⟩ := H
 replace H : (some (a0_0, t204)) = some (r1, r2) := H
 have A2 := Aside0.mk A20
 clear A20
 simp only [Option.some.injEq, Prod.mk.injEq] at H
 obtain ⟨rfl, rfl⟩ := H
 go_enter Try.func13, Try.ntmps13
 go_wp2_with (first | ((with_reducible refine zi (N := 1) rfl ?_); refine zl ?hg (N := 1) ?hd (cs := #[.int .i64 a0_0, .slice A0_1 l0_1.length c0_1]) (t := 24) ?hr ?_; (case hd => rfl); (case hg => rfl); (case hr => exact sqG); intro gb201 hg w3 hbox hb; have n0_ := Aside0.mk (zc sqB hb); have n1_ := Aside0.mk (hbox); have n2_ := Aside0.mk ((sqS hg : w.heap.size ≤ gb201)); have n3_ := Aside0.mk ((sqS hg : w.heap.size ≤ gb201)); clear HB; have HB := n0_; have BK201 := n1_; have GW201 := n2_; have GE201 := n3_; clear n0_ n1_ n2_ n3_; clear hb hbox hg) | ((with_reducible refine zi (N := 2) rfl ?_); refine zl ?hg (N := 2) ?hd (cs := #[.int .i64 0, .slice none 0 0]) (t := 27) ?hr ?_; (case hd => rfl); (case hg => rfl); (case hr => exact sqG); intro gb202 hg w4 hbox hb; have n0_ := Aside0.mk (ze (g := gb201) (o := .cells #[.int .i64 a0_0, .slice A0_1 l0_1.length c0_1] 24 (0, 0)) (sqK BK201.out) hb); have n1_ := Aside0.mk (zc sqB hb); have n2_ := Aside0.mk (hbox); have n3_ := Aside0.mk ((sqS hg : w.heap.size ≤ gb202)); have n4_ := Aside0.mk ((sqS hg : w.heap.size ≤ gb202)); have n5_ := Aside0.mk ((by rw [hg]; exact Nat.ne_of_lt (zV (g := gb201) (o := .cells #[.int .i64 a0_0, .slice A0_1 l0_1.length c0_1] 24 (0, 0)) (sqK BK201.out)) : gb201 ≠ gb202)); have n6_ := Aside0.mk ((by rw [hg]; exact Nat.ne_of_gt (zV (g := gb201) (o := .cells #[.int .i64 a0_0, .slice A0_1 l0_1.length c0_1] 24 (0, 0)) (sqK BK201.out)) : gb202 ≠ gb201)); clear BK201; clear HB; have BK201 := n0_; have HB := n1_; have BK202 := n2_; have GW202 := n3_; have GE202 := n4_; have NB201_202 := n5_; have NB202_201 := n6_; clear n0_ n1_ n2_ n3_ n4_ n5_ n6_; clear hb hbox hg) | ((with_reducible refine zi (N := 3) rfl ?_); refine zl ?hg (N := 3) ?hd (cs := #[.int .i64 0, .slice none 0 0]) (t := 27) ?hr ?_; (case hd => rfl); (case hg => rfl); (case hr => exact sqG); intro gb203 hg w5 hbox hb; have n0_ := Aside0.mk (ze (g := gb201) (o := .cells #[.int .i64 a0_0, .slice A0_1 l0_1.length c0_1] 24 (0, 0)) (sqK BK201.out) hb); have n1_ := Aside0.mk (ze (g := gb202) (o := .cells #[.int .i64 0, .slice none 0 0] 27 (0, 0)) (sqK BK202.out) hb); have n2_ := Aside0.mk (zc sqB hb); have n3_ := Aside0.mk (hbox); have n4_ := Aside0.mk ((sqS hg : w.heap.size ≤ gb203)); have n5_ := Aside0.mk ((sqS hg : w.heap.size ≤ gb203)); have n6_ := Aside0.mk ((by rw [hg]; exact Nat.ne_of_lt (zV (g := gb201) (o := .cells #[.int .i64 a0_0, .slice A0_1 l0_1.length c0_1] 24 (0, 0)) (sqK BK201.out)) : gb201 ≠ gb203)); have n7_ := Aside0.mk ((by rw [hg]; exact Nat.ne_of_gt (zV (g := gb201) (o := .cells #[.int .i64 a0_0, .slice A0_1 l0_1.length c0_1] 24 (0, 0)) (sqK BK201.out)) : gb203 ≠ gb201)); have n8_ := Aside0.mk ((by rw [hg]; exact Nat.ne_of_lt (zV (g := gb202) (o := .cells #[.int .i64 0, .slice none 0 0] 27 (0, 0)) (sqK BK202.out)) : gb202 ≠ gb203)); have n9_ := Aside0.mk ((by rw [hg]; exact Nat.ne_of_gt (zV (g := gb202) (o := .cells #[.int .i64 0, .slice none 0 0] 27 (0, 0)) (sqK BK202.out)) : gb203 ≠ gb202)); clear BK201; clear BK202; clear HB; have BK201 := n0_; have BK202 := n1_; have HB := n2_; have BK203 := n3_; have GW203 := n4_; have GE203 := n5_; have NB201_203 := n6_; have NB203_201 := n7_; have NB202_203 := n8_; have NB203_202 := n9_; clear n0_ n1_ n2_ n3_ n4_ n5_ n6_ n7_ n8_ n9_; clear hb hbox hg; have hnb6 := NB201_202.out; have hnc6 := NB202_201.out; have hnb7 := NB201_203.out; have hnc7 := NB203_201.out; have hcz8_0 : w5.cell? ⟨gb201, 0, none⟩ = some (.int .i64 a0_0) := (zb BK201.out 0).trans rfl; have hcz8_1 : w5.cell? ⟨gb201, 1, none⟩ = some (.slice A0_1 l0_1.length c0_1) := (zb BK201.out 1).trans rfl; have hfz8_0 := za BK201.out 0; have hfz8_1 := za BK201.out 1; have hnb9 := NB203_202.out; have hnc9 := NB202_203.out; have hcz10_0 : w5.cell? ⟨gb203, 0, none⟩ = some (.int .i64 0) := (zb BK203.out 0).trans rfl; have hcz10_1 : w5.cell? ⟨gb203, 1, none⟩ = some (.slice none 0 0) := (zb BK203.out 1).trans rfl; have hfz10_0 := za BK203.out 0; have hfz10_1 := za BK203.out 1) | ((with_reducible refine zd (f := 21) rfl ?_); refine zn (some 9) rfl rfl Try.func21 (by kernel_rfl) rfl #[.slice A0_1 l0_1.length c0_1] rfl sqM ?_; (with_reducible refine (qg.calls k _ _ l0_1 t204 _ ?side1 ?side2 A2.out).mono ?_); (case side1 => exact Kd.zp HR0_1.out sqB); (case side2 => exact HC0_1.out); rintro e w11 ⟨v205, rfl, ho0, hb⟩; refine ⟨_, rfl, ?_⟩; have n0_ := Aside0.mk (Kd.zD ho0 (zg sqB)); have n1_ := Aside0.mk (ze (g := gb201) (o := .cells #[.int .i64 a0_0, .slice A0_1 l0_1.length c0_1] 24 (0, 0)) (by refine sqK ?_; refine qk ?_ NB201_203.out _; refine sqK ?_; exact BK201.out) hb); have n2_ := Aside0.mk (ze (g := gb202) (o := .cells #[.int .i64 0, .slice none 0 0] 27 (0, 0)) (by refine sqK ?_; refine qk ?_ NB202_203.out _; refine sqK ?_; exact BK202.out) hb); have n3_ := Aside0.mk (ze (g := gb203) (o := .cells #[.int .i64 a0_0, .slice none 0 0] 27 (0, 0)) (by refine sqK ?_; refine zB (cs := #[.int .i64 0, .slice none 0 0]) ?_ 0 _ rfl; refine sqK ?_; exact BK203.out) hb); have n4_ := Aside0.mk (zc sqB hb); clear BK201; clear BK202; clear BK203; clear HB; have HO206 := n0_; have BK201 := n1_; have BK202 := n2_; have BK203 := n3_; have HB := n4_; clear n0_ n1_ n2_ n3_ n4_; (try clear hb); (try clear hb2); (try clear hk); (try clear hi); (try clear ho0); obtain ⟨Ao12, co12, eo12⟩ := Kd.zR HO206.out; subst eo12; have hcz13_0 : w11.cell? ⟨gb203, 0, none⟩ = some (.int .i64 a0_0) := (zb BK203.out 0).trans rfl; have hcz13_1 : w11.cell? ⟨gb203, 1, none⟩ = some (.slice none 0 0) := (zb BK203.out 1).trans rfl; have hfz13_0 := za BK203.out 0; have hfz13_1 := za BK203.out 1; have hcz14_0 : w11.cell? ⟨gb202, 0, none⟩ = some (.int .i64 0) := (zb BK202.out 0).trans rfl; have hcz14_1 : w11.cell? ⟨gb202, 1, none⟩ = some (.slice none 0 0) := (zb BK202.out 1).trans rfl; have hfz14_0 := za BK202.out 0; have hfz14_1 := za BK202.out 1))
 refine bodyPost_ret (results_cell_row rfl _ _ gb202 27 #[.int .i64 a0_0, .slice Ao12 t204.length co12] (0, 0) _ rfl (by refine sqK ?_; refine zB (cs := #[.int .i64 a0_0, .slice none 0 0]) ?_ 1 _ rfl; refine sqK ?_; refine zB (cs := #[.int .i64 0, .slice none 0 0]) ?_ 0 _ rfl; refine sqK ?_; refine qk ?_ NB202_203.out _; refine sqK ?_; exact BK202.out) Try.underlying27 rfl (by kernel_rfl)) rfl ?_
 exact ⟨_, sqE, by refine sqR ?_; exact Kd.zu (Kd.zC (p := ⟨gb202, 1, none⟩) (Kd.zC (p := ⟨gb202, 0, none⟩) (Kd.zC (p := ⟨gb203, 1, none⟩) (Kd.zK (Kd.zK HO206.out BK203.out (by decide)) BK202.out (by decide)) (fun _ hk => hk.1.2) (.slice Ao12 t204.length co12)) (fun _ hk => hk.2) (.int .i64 a0_0)) (fun _ hk => hk.2) (.slice Ao12 t204.length co12)) (fun _ hk => trivial), sqB⟩

end Go.Proofs.Yteggmbhcnhbamaa.F
end
section
namespace Go.Proofs.Yteggmbhcnhbamaa.L
open Go.RowKit Go.Proofs.Yteggmbhcnhbamaa.F Go.Proofs.YteggmbhcnhbamaaW.PrintWords Go.Proofs.YteggmbhcnhbamaaW.PrintLast Go.Proofs.YteggmbhcnhbamaaW.PrintMore
open Go.Proofs.Yteggmbhcnhbamaa.Bits

theorem y0 (l l' : List Int) (h : l.length = l'.length) : (List.range l.length).all (fun i => decide (l.getD i 0 = l'.getD i 0)) = decide (l = l') := by
  rw [Bool.eq_iff_iff, List.all_eq_true, decide_eq_true_iff]
  constructor
  · intro hh
    apply List.ext_getElem h
    intro i h1 h2
    have := hh i (by simpa using h1)
    simpa [List.getElem?_eq_getElem h1, List.getElem?_eq_getElem h2] using this
  · rintro rfl i _
    simp

theorem zak (l l' : List Int) (h : l.length ≤ 17592186044416) : Ev (fun k => qX.f k l l') (decide (l = l')) := by
  unfold qX.f
  by_cases e : l.length = l'.length
  · simp only [show ((l.length : Int) = (l'.length : Int)) by omega, if_true]
    rw [← y0 l l' e]
    refine yT _ _ _ (fun k => by simp only [qX.l0, show ¬ ((l.length : Int) < (l.length : Int)) by omega, if_false]) ?_
    intro i hi k
    simp only [qX.l0, show ((i : Int) < (l.length : Int)) by omega, show ((i : Int) < (l'.length : Int)) by omega, show (0 : Int) ≤ (i : Int) by omega, if_true, jH, qo (show i < 9223372036854775807 by omega), decide_eq_true_eq]
  · simp only [show ¬ ((l.length : Int) = (l'.length : Int)) by omega, if_false]
    rw [show decide (l = l') = false by simp; rintro rfl; exact e rfl]
    exact Ev.now _

theorem JU (l : List Int) : ∀ n, n ≤ l.length → (List.range n).foldl (fun a i => a.set i (l.getD i 0)) (List.replicate l.length 0) = l.take n ++ List.replicate (l.length - n) 0
  | 0, _ => by simp
  | n + 1, h => by
    rw [List.range_succ, List.foldl_append, JU l n (by omega)]
    simp only [List.foldl_cons, List.foldl_nil]
    obtain ⟨m, hm⟩ : ∃ m, l.length - n = m + 1 := ⟨l.length - n - 1, by omega⟩
    rw [hm, List.replicate_succ, List.set_append_right _ _ (by simp; omega)]
    have : n - (List.take n l).length = 0 := by simp; omega
    rw [this, List.set_cons_zero, show l.length - (n + 1) = m by omega]
    have hg : l.getD n 0 = l[n] := by simp [List.getElem?_eq_getElem (show n < l.length by omega)]
    rw [List.take_succ_eq_append_getElem (by omega), List.append_assoc, List.singleton_append, hg]

theorem Vf (l : List Int) (h : l.length ≤ 17592186044416) : Ev (fun k => qg.f k l) l := by
  unfold qg.f
  simp only [show (0 : Int) ≤ (l.length : Int) by omega, Int.toNat_natCast, show l.length ≤ 35184372088832 by omega, if_true]
  have key := vB (fun k s i => qg.l0 k l s i) l.length (fun a i => a.set i (l.getD i 0)) (fun _ s => s.length = l.length) id
    (fun s hs => by
      simp only [qg.l0, show ¬ ((l.length : Int) < (l.length : Int)) by omega, if_false]
      exact Ev.now _)
    (fun i s hi hs => ⟨by simp [hs], fun r hr => by
      simp only [qg.l0, show ((i : Int) < (l.length : Int)) by omega, show ((i : Int) < (s.length : Int)) by omega, show (0 : Int) ≤ (i : Int) by omega, if_true, Int.toNat_natCast, jH, qo (show i < 9223372036854775807 by omega)]
      exact hr⟩) (List.replicate l.length 0) (by simp)
  rw [JU l l.length (Nat.le_refl _)] at key
  simpa using key
end Go.Proofs.Yteggmbhcnhbamaa.L
end
section
namespace Go.Proofs.Yteggmbhcnhbamaa.L
open Go.RowKit Go.Proofs.Yteggmbhcnhbamaa.F Go.Proofs.YteggmbhcnhbamaaW.PrintWords Go.Proofs.YteggmbhcnhbamaaW.PrintLast Go.Proofs.YteggmbhcnhbamaaW.PrintMore
open Go.Proofs.Yteggmbhcnhbamaa.Bits
theorem zbf (l l' : List Int) (h : l.length ≤ 17592186044416) : Ev (fun k => qn.f k l l') (decide (l = l')) := by
  unfold qn.f
  by_cases e : l.length = l'.length
  · simp only [show ((l.length : Int) = (l'.length : Int)) by omega, if_true]
    rw [← y0 l l' e]
    refine yT _ _ _ (fun k => by simp only [qn.l0, show ¬ ((l.length : Int) < (l.length : Int)) by omega, if_false]) ?_
    intro i hi k
    simp only [qn.l0, show ((i : Int) < (l.length : Int)) by omega, show ((i : Int) < (l'.length : Int)) by omega, show (0 : Int) ≤ (i : Int) by omega, if_true, jH, qo (show i < 9223372036854775807 by omega), decide_eq_true_eq]
  · simp only [show ¬ ((l.length : Int) = (l'.length : Int)) by omega, if_false]
    rw [show decide (l = l') = false by simp; rintro rfl; exact e rfl]
    exact Ev.now _
theorem zaw (l l' : List Int) (h : l.length ≤ 17592186044416) : Ev (fun k => zq.f k l l') (decide (l = l')) := by
  unfold zq.f
  by_cases e : l.length = l'.length
  · simp only [show ((l.length : Int) = (l'.length : Int)) by omega, if_true]
    rw [← y0 l l' e]
    refine yT (fun k i => zq.l0 k l l' (l'.length : Int) i) _ _ (fun k => by simp only [zq.l0, show ¬ ((l.length : Int) < (l'.length : Int)) by omega, if_false]) ?_
    intro i hi k
    simp only [zq.l0, show ((i : Int) < (l.length : Int)) by omega, show ((i : Int) < (l'.length : Int)) by omega, show (0 : Int) ≤ (i : Int) by omega, if_true, jH, qo (show i < 9223372036854775807 by omega), decide_eq_true_eq]
  · simp only [show ¬ ((l.length : Int) = (l'.length : Int)) by omega, if_false]
    rw [show decide (l = l') = false by simp; rintro rfl; exact e rfl]
    exact Ev.now _
end Go.Proofs.Yteggmbhcnhbamaa.L
end
section
namespace Go.Proofs.Yteggmbhcnhbamaa.L
open Go.RowKit Go.Proofs.Yteggmbhcnhbamaa.F Go.Proofs.YteggmbhcnhbamaaW.PrintWords Go.Proofs.YteggmbhcnhbamaaW.PrintLast Go.Proofs.YteggmbhcnhbamaaW.PrintMore
open Go.Proofs.Yteggmbhcnhbamaa.Bits
open Go.Proofs.Yteggmbhcnhbamaa.Mt (cnt full Mat jc rk)
set_option linter.unusedSimpArgs false
set_option linter.unusedVariables false
/-- The matroid whose bases are the jP of some sets, if it is one. -/
def QZ (n : Int) (L : List Nat) : Int × List Int × Bool := if qC n (ints (y6 L)) = true then (n, ints (y6 L), true) else (0, [], false)
theorem Z7 (n : Int) {L : List Nat} (hL : ∀ x ∈ L, x < 256) (hl : L.length ≤ 17592186044416) : Ev (fun k => zS.f k n (ints L)) (QZ n L) := by
  unfold zS.f QZ
  have hlen := Jm L
  refine Ev.bind (JG hL hl) (Ev.bind (ya n _ (by rw [zr]; omega)) ?_)
  cases qC n (ints (y6 L))
  · simp only [Bool.false_eq_true, if_false]; exact Ev.now _
  · simp only [if_true]; exact Ev.now _
theorem Q1 {n : Int} {l : List Int} (h : jL n l = true) : ∃ (N : Nat) (L : List Nat), n = N ∧ N ≤ 8 ∧ l = ints L ∧ (∀ x ∈ L, x < 2 ^ N) ∧ L.Pairwise (· < ·) ∧ (∀ x ∈ L, x < 256) ∧ L.length ≤ 256 := by
  obtain ⟨N, L, rfl, hN, rfl, h1, h2⟩ := Zn h
  have h3 : ∀ x ∈ L, x < 256 := fun x hx => jc hN (h1 x hx)
  exact ⟨N, L, rfl, hN, rfl, h1, h2, h3, y2 h3 h2⟩
end Go.Proofs.Yteggmbhcnhbamaa.L
end
section
namespace Go.Proofs.Yteggmbhcnhbamaa.F
open Go.RowKit Go.Proofs.YteggmbhcnhbamaaW.PrintWords Go.Proofs.YteggmbhcnhbamaaW.PrintLast Go.Proofs.YteggmbhcnhbamaaW.PrintMore
attribute [local go_sem] qJ qM q2 q4 qy qx qL qK   -- for this text's walks alone
set_option linter.unusedVariables false
set_option linter.unusedSimpArgs false

def zW.l0 : Nat → List Int → Int → Int → List Int → Option (List Int)
 | 0, _, _, _, _ => none
 | k + 1, x3, x4, x490000, x490001 => (qB.f x490000).bind fun t493 => (if x4 ≤ t493 then ((qf.f k x490000 x490001 x4).bind fun t497 => ((zY.f k x4).bind fun t498 => (if t497 < t498 then (if x3.length < 17592186044416 then (zW.l0 k (x3 ++ [x4]) (wrap64 (x4 + 1)) x490000 x490001) else (none)) else (zW.l0 k x3 (wrap64 (x4 + 1)) x490000 x490001)))) else ((zy.f k x3).bind fun t494 => (some t494)))
def zW.f (k : Nat) (a0_0 : Int) (l0_1 : List Int) : Option (List Int) := zW.l0 k (([] : List Int)) 0 a0_0 l0_1
theorem zW.calls (k : Nat) (a0_0 : Int) (A0_1 : Option Addr) (c0_1 : Nat) (l0_1 : List Int) (r : List Int) (w : World) (hr0_1 : Kd.C (Kd.int .i64) w A0_1 l0_1.length l0_1) (hc0_1 : l0_1.length ≤ c0_1) (h : zW.f k a0_0 l0_1 = some r) :
  Calls Try.prog 56 #[.agg #[.int .i64 a0_0, .slice A0_1 l0_1.length c0_1]] w fun e w' => ∃ v0_ : Value, e = .returned (v0_) ∧ Kd.R (Kd.int .i64) 3 w' w.heap.size (fun _ => True) v0_ r ∧ Below w.heap.size w w' := by
 have hu27 := Try.underlying27
 have HR0_1 := Aside0.mk hr0_1
 have HC0_1 := Aside0.mk hc0_1
 clear hr0_1 hc0_1
 have HB := Aside0.mk (Below.refl w.heap.size w)
 have H : (zW.l0 k (([] : List Int)) 0 a0_0 l0_1) = some r := h
 clear h
 obtain ⟨y490, hy490⟩ : ∃ y_ : List Int, y_ = (([] : List Int)) := ⟨_, rfl⟩
 replace H : (zW.l0 k y490 0 a0_0 l0_1) = some r := by first | (rw [hy490]; with_reducible exact H) | (have H2_ := (Option.bind_some _ _).symm.trans H; rw [hy490]; with_reducible exact H2_) | (have H2_ := (Option.bind_some _ _).symm.trans H; with_reducible exact H2_) | with_reducible exact H | (rw [hy490]; exact H) | exact H
 have Ny490 := Aside0.mk hy490
 clear hy490
 have H' := Aside0.mk H
 clear H
 go_enter Try.func56, Try.ntmps56
 go_wp2_with (first | ((with_reducible refine zi (N := 1) rfl ?_); refine zl ?hg (N := 1) ?hd (cs := #[.int .i64 a0_0, .slice A0_1 l0_1.length c0_1]) (t := 27) ?hr ?_; (case hd => rfl); (case hg => rfl); (case hr => exact sqG); intro gb489 hg w2 hbox hb; have n0_ := Aside0.mk (zc sqB hb); have n1_ := Aside0.mk (hbox); have n2_ := Aside0.mk ((sqS hg : w.heap.size ≤ gb489)); have n3_ := Aside0.mk ((sqS hg : w.heap.size ≤ gb489)); clear HB; have HB := n0_; have BK489 := n1_; have GW489 := n2_; have GE489 := n3_; clear n0_ n1_ n2_ n3_; clear hb hbox hg) | ((with_reducible refine zi (N := 5) rfl ?_); refine Kd.jx (Kd.int .i64) _ 3 ?hg (N := 5) ?hd (xs := ([] : List Int)) (inner := []) (ok := fun _ => True) (okp := fun _ => True) ?hr ?hp (fun _ hk => hk) trivial (Below.refl _ _) (Nat.le_refl _) (by simp) ?_; (case hd => rfl); (case hg => rfl); (case hr => exact sqG); (case hp => exact (qT.none _ _)); intro v491 w3 ho4 hb hg_ hnew_; clear hg_ hnew_; (first | rw [← Ny490.out] at ho4 | (simp only [Int.reduceToNat] at ho4; rw [← Ny490.out] at ho4)); have n0_ := Aside0.mk (Kd.zD ho4 (zg sqB)); have n1_ := Aside0.mk (ze (g := gb489) (o := .cells #[.int .i64 a0_0, .slice A0_1 l0_1.length c0_1] 27 (0, 0)) (sqK BK489.out) hb); have n2_ := Aside0.mk (zc sqB hb); clear BK489; clear HB; have HO492 := n0_; have BK489 := n1_; have HB := n2_; clear n0_ n1_ n2_; clear hb ho4))
 go_loopg [3, 4] k (fun kq v3 v4 w' => ∃ (x3_1 : List Int) (x4_1 : Int), v4 = .int .i64 x4_1 ∧ Aside0 (zW.l0 kq x3_1 x4_1 a0_0 l0_1 = some r) ∧ Aside0 (kq ≤ k) ∧ Aside0 (Kd.R (Kd.int .i64) 3 w' w.heap.size (fun _ => True) v3 x3_1) ∧ Aside0 (w'.heap[gb489]? = some (.cells #[.int .i64 a0_0, (.slice A0_1 l0_1.length c0_1)] 27 (0, 0))) ∧ Aside0 (Below w.heap.size w w'))
 case atStart => exact ⟨(y490), (0), (sqD), H', ⟨Nat.le_refl _⟩, ⟨sqR HO492.out⟩, ⟨sqK BK489.out⟩, ⟨sqB⟩⟩
 case round =>
  clear H'
  try clear p2
  obtain ⟨x3_1, x4_1, rfl, HA, HK1, HO_3, BK489, HB⟩ := hrel
  cases gk with
  | zero => exact absurd HA.out (by simp [zW.l0])
  | succ k1 =>
   have H := HA.out
   clear HA
   simp only [zW.l0] at H
   replace H := Option.bind_eq_some_iff.mp H
   obtain ⟨t493, A50, H⟩ := H
   replace H : (if x4_1 ≤ t493 then ((qf.f k1 a0_0 l0_1 x4_1).bind fun t497 => ((zY.f k1 x4_1).bind fun t498 => (if t497 < t498 then (if x3_1.length < 17592186044416 then (zW.l0 k1 (x3_1 ++ [x4_1]) (wrap64 (x4_1 + 1)) a0_0 l0_1) else (none)) else (zW.l0 k1 x3_1 (wrap64 (x4_1 + 1)) a0_0 l0_1)))) else ((zy.f k1 x3_1).bind fun t494 => (some t494))) = some r := H
   have A5 := Aside0.mk A50
   clear A50
   by_cases c6 : x4_1 ≤ t493
   ·rw [if_pos c6] at H
    have c6b0 : decide (x4_1 ≤ t493) = true := decide_eq_true c6
    clear c6
    replace H := Option.bind_eq_some_iff.mp H
    obtain ⟨t497, A70, H⟩ := H
    replace H : ((zY.f k1 x4_1).bind fun t498 => (if t497 < t498 then (if x3_1.length < 17592186044416 then (zW.l0 k1 (x3_1 ++ [x4_1]) (wrap64 (x4_1 + 1)) a0_0 l0_1) else (none)) else (zW.l0 k1 x3_1 (wrap64 (x4_1 + 1)) a0_0 l0_1))) = some r := H
    have A7 := Aside0.mk A70
    clear A70
    replace H := Option.bind_eq_some_iff.mp H
    obtain ⟨t498, A80, H⟩ := H
    replace H : (if t497 < t498 then (if x3_1.length < 17592186044416 then (zW.l0 k1 (x3_1 ++ [x4_1]) (wrap64 (x4_1 + 1)) a0_0 l0_1) else (none)) else (zW.l0 k1 x3_1 (wrap64 (x4_1 + 1)) a0_0 l0_1)) = some r := H
    have A8 := Aside0.mk A80
    clear A80
    by_cases c9 : t497 < t498
    ·rw [if_pos c9] at H
     have c9b0 : decide (t497 < t498) = true := decide_eq_true c9
     clear c9
     by_cases c10 : x3_1.length < 17592186044416
     ·rw [if_pos c10] at H
      have LMc10 := Aside0.mk c10
      clear c10
      obtain ⟨y499, hy499⟩ : ∃ y_ : List Int, y_ = (x3_1 ++ [x4_1]) := ⟨_, rfl⟩
      replace H : (zW.l0 k1 y499 (wrap64 (x4_1 + 1)) a0_0 l0_1) = some r := by first | (rw [hy499]; with_reducible exact H) | (have H2_ := (Option.bind_some _ _).symm.trans H; rw [hy499]; with_reducible exact H2_) | (have H2_ := (Option.bind_some _ _).symm.trans H; with_reducible exact H2_) | with_reducible exact H | (rw [hy499]; exact H) | exact H
      have Ny499 := Aside0.mk hy499
      clear hy499
      have H' := Aside0.mk H
      clear H
      have hcz11_0 : wr.cell? ⟨gb489, 0, none⟩ = some (.int .i64 a0_0) := (zb BK489.out 0).trans rfl
      have hcz11_1 : wr.cell? ⟨gb489, 1, none⟩ = some (.slice A0_1 l0_1.length c0_1) := (zb BK489.out 1).trans rfl
      have hfz11_0 := za BK489.out 0
      have hfz11_1 := za BK489.out 1
      go_wp2_with (first | ((with_reducible refine zd (f := 63) rfl ?_); refine zn (some 9) rfl rfl Try.func63 (by kernel_rfl) rfl #[.int .i64 a0_0] rfl sqM ?_; (with_reducible refine (qB.calls a0_0 t493 _ A5.out).mono ?_); rintro e w' ⟨rfl, ⟨nd, rfl⟩⟩; refine ⟨_, rfl, ?_⟩) | ((with_reducible refine zd (f := 76) rfl ?_); refine zn (some 15) rfl rfl Try.func76 (by kernel_rfl) rfl #[.agg #[.int .i64 a0_0, .slice A0_1 l0_1.length c0_1], .int .i64 x4_1] rfl sqM ?_; (with_reducible refine (qf.calls k1 a0_0 _ _ l0_1 x4_1 t497 _ ?side1 ?side2 A7.out).mono ?_); (case side1 => exact sqC (Kd.zp HR0_1.out sqB)); (case side2 => exact HC0_1.out); rintro e w12 ⟨rfl, hb⟩; refine ⟨_, rfl, ?_⟩; have n0_ := Aside0.mk (Kd.zz (sqR HO_3.out) hb); have n1_ := Aside0.mk (ze (g := gb489) (o := .cells #[.int .i64 a0_0, .slice A0_1 l0_1.length c0_1] 27 (0, 0)) (sqK BK489.out) hb); have n2_ := Aside0.mk (zc sqB hb); clear HO_3; clear BK489; clear HB; have HO_3 := n0_; have BK489 := n1_; have HB := n2_; clear n0_ n1_ n2_; (try clear hb); (try clear hb2); (try clear hk); (try clear hi)) | ((with_reducible refine zd (f := 88) rfl ?_); refine zn (some 17) rfl rfl Try.func88 (by kernel_rfl) rfl #[.int .i64 x4_1] rfl sqM ?_; (with_reducible refine (zY.calls k1 x4_1 t498 _ A8.out).mono ?_); rintro e w' ⟨rfl, ⟨nd, rfl⟩⟩; refine ⟨_, rfl, ?_⟩) | ((with_reducible refine qN (b := .append) (xs := #[.tmp 19, .tmp 21]) rfl ?_); at_builtin; refine Kd.jA (Kd.int .i64) (w0 := w) w.heap.size rfl (.tmp 19) (.tmp 21) 22 3 (.int .i64 0) 8 rfl Try.underlying22 jO rfl (by decide) (by omega) u3 x3_1 x4_1 [.int .i64 x4_1] (fun _ => True) (fun _ => False) rfl rfl ?aP (fun _ hk => hk.elim) ?aF ?aO ?aB ?aS ?aL ?_; (case aP => exact rfl); (case aB => exact sqB); (case aF => exact (fun _ _ => trivial)); (case aO => exact (sqR HO_3.out)); (case aS => exact (zg sqB)); (case aL => have := LMc10.out; omega); intro v500 w13 ho hb hg hat; rw [← Ny499.out] at ho; have n0_ := Aside0.mk (yn (g := gb489) (o := .cells #[.int .i64 a0_0, .slice A0_1 l0_1.length c0_1] 27 (0, 0)) (sqK BK489.out) hg (Kd.Jd HO_3.out BK489.out (by decide))); have n1_ := Aside0.mk (hb); have n2_ := Aside0.mk (ho); clear BK489; clear HB; clear HO_3; have BK489 := n0_; have HB := n1_; have HO501 := n2_; clear n0_ n1_ n2_; clear ho hb hg hat))
      go_roundg k1
      case measure => have := HK1.out; omega
      case rel => exact ⟨(y499), (wrap64 (x4_1 + 1)), (sqD), H', ⟨by have := HK1.out; omega⟩, ⟨sqR HO501.out⟩, ⟨sqK BK489.out⟩, ⟨sqB⟩⟩
     ·rw [if_neg c10] at H
      exact absurd H (by simp)
    ·rw [if_neg c9] at H
     have c9b0 : decide (t497 < t498) = false := decide_eq_false c9
     clear c9
     have H' := Aside0.mk H
     clear H
     have hcz14_0 : wr.cell? ⟨gb489, 0, none⟩ = some (.int .i64 a0_0) := (zb BK489.out 0).trans rfl
     have hcz14_1 : wr.cell? ⟨gb489, 1, none⟩ = some (.slice A0_1 l0_1.length c0_1) := (zb BK489.out 1).trans rfl
     have hfz14_0 := za BK489.out 0
     have hfz14_1 := za BK489.out 1
     go_wp2_with (first | ((with_reducible refine zd (f := 63) rfl ?_); refine zn (some 9) rfl rfl Try.func63 (by kernel_rfl) rfl #[.int .i64 a0_0] rfl sqM ?_; (with_reducible refine (qB.calls a0_0 t493 _ A5.out).mono ?_); rintro e w' ⟨rfl, ⟨nd, rfl⟩⟩; refine ⟨_, rfl, ?_⟩) | ((with_reducible refine zd (f := 76) rfl ?_); refine zn (some 15) rfl rfl Try.func76 (by kernel_rfl) rfl #[.agg #[.int .i64 a0_0, .slice A0_1 l0_1.length c0_1], .int .i64 x4_1] rfl sqM ?_; (with_reducible refine (qf.calls k1 a0_0 _ _ l0_1 x4_1 t497 _ ?side1 ?side2 A7.out).mono ?_); (case side1 => exact sqC (Kd.zp HR0_1.out sqB)); (case side2 => exact HC0_1.out); rintro e w15 ⟨rfl, hb⟩; refine ⟨_, rfl, ?_⟩; have n0_ := Aside0.mk (Kd.zz (sqR HO_3.out) hb); have n1_ := Aside0.mk (ze (g := gb489) (o := .cells #[.int .i64 a0_0, .slice A0_1 l0_1.length c0_1] 27 (0, 0)) (sqK BK489.out) hb); have n2_ := Aside0.mk (zc sqB hb); clear HO_3; clear BK489; clear HB; have HO_3 := n0_; have BK489 := n1_; have HB := n2_; clear n0_ n1_ n2_; (try clear hb); (try clear hb2); (try clear hk); (try clear hi)) | ((with_reducible refine zd (f := 88) rfl ?_); refine zn (some 17) rfl rfl Try.func88 (by kernel_rfl) rfl #[.int .i64 x4_1] rfl sqM ?_; (with_reducible refine (zY.calls k1 x4_1 t498 _ A8.out).mono ?_); rintro e w' ⟨rfl, ⟨nd, rfl⟩⟩; refine ⟨_, rfl, ?_⟩))
     go_roundg k1
     case measure => have := HK1.out; omega
     case rel => exact ⟨(x3_1), (wrap64 (x4_1 + 1)), (sqD), H', ⟨by have := HK1.out; omega⟩, ⟨sqR HO_3.out⟩, ⟨sqK BK489.out⟩, ⟨sqB⟩⟩
   ·rw [if_neg c6] at H
    have c6b0 : decide (x4_1 ≤ t493) = false := decide_eq_false c6
    clear c6
    replace H := Option.bind_eq_some_iff.mp H
    obtain ⟨t494, A160, H⟩ := H
    replace H : (some t494) = some r := H
    have A16 := Aside0.mk A160
    clear A160
    obtain rfl := Option.some.inj H
    have hcz17_0 : wr.cell? ⟨gb489, 0, none⟩ = some (.int .i64 a0_0) := (zb BK489.out 0).trans rfl
    have hcz17_1 : wr.cell? ⟨gb489, 1, none⟩ = some (.slice A0_1 l0_1.length c0_1) := (zb BK489.out 1).trans rfl
    have hfz17_0 := za BK489.out 0
    have hfz17_1 := za BK489.out 1
    go_wp2_with (first | ((with_reducible refine zd (f := 63) rfl ?_); refine zn (some 9) rfl rfl Try.func63 (by kernel_rfl) rfl #[.int .i64 a0_0] rfl sqM ?_; (with_reducible refine (qB.calls a0_0 t493 _ A5.out).mono ?_); rintro e w' ⟨rfl, ⟨nd, rfl⟩⟩; refine ⟨_, rfl, ?_⟩; obtain ⟨Ao18, co18, eo18⟩ := Kd.zR HO_3.out; subst eo18) | ((with_reducible refine zd (f := 65) rfl ?_); refine zn (some 24) rfl rfl Try.func65 (by kernel_rfl) rfl #[.slice Ao18 x3_1.length co18] rfl sqM ?_; (with_reducible refine (zy.calls k1 _ _ x3_1 t494 _ ?side1 ?side2 A16.out).mono ?_); (case side1 => exact sqC (Kd.zh HO_3.out).2.2); (case side2 => exact (Kd.zh HO_3.out).2.1); rintro e w19 ⟨v495, rfl, ho0, hb⟩; refine ⟨_, rfl, ?_⟩; have n0_ := Aside0.mk (Kd.zU (sqR HO_3.out) (Kd.qt ho0) hb); have n1_ := Aside0.mk (Kd.zD (Kd.qu ho0 (Kd.jd (sqR HO_3.out))) (zg sqB)); have n2_ := Aside0.mk (ze (g := gb489) (o := .cells #[.int .i64 a0_0, .slice A0_1 l0_1.length c0_1] 27 (0, 0)) (sqK BK489.out) hb); have n3_ := Aside0.mk (zc sqB hb); clear HO_3; clear BK489; clear HB; have HO_3 := n0_; have HO496 := n1_; have BK489 := n2_; have HB := n3_; clear n0_ n1_ n2_ n3_; (try clear hb); (try clear hb2); (try clear hk); (try clear hi); (try clear ho0)))
    go_ret
    exact ⟨_, sqE, by refine sqR ?_; exact Kd.zu HO496.out (fun _ hk => trivial), sqB⟩

end Go.Proofs.Yteggmbhcnhbamaa.F
end
section
namespace Go.Proofs.Yteggmbhcnhbamaa.F
open Go.RowKit Go.Proofs.YteggmbhcnhbamaaW.PrintWords Go.Proofs.YteggmbhcnhbamaaW.PrintLast Go.Proofs.YteggmbhcnhbamaaW.PrintMore
attribute [local go_sem] qJ qM q2 q4 qy qx qL qK   -- for this text's walks alone
set_option linter.unusedVariables false
set_option linter.unusedSimpArgs false

def vw.f (k : Nat) (a0_0 : Int) (l0_1 : List Int) : Option (List Int) := (zA.f k a0_0 l0_1).bind fun t601 => (if t601 = true then ((zW.f k a0_0 l0_1).bind fun t602 => (some t602)) else (some (([] : List Int))))
theorem vw.calls (k : Nat) (a0_0 : Int) (A0_1 : Option Addr) (c0_1 : Nat) (l0_1 : List Int) (r : List Int) (w : World) (hr0_1 : Kd.C (Kd.int .i64) w A0_1 l0_1.length l0_1) (hc0_1 : l0_1.length ≤ c0_1) (h : vw.f k a0_0 l0_1 = some r) :
  Calls Try.prog 94 #[.agg #[.int .i64 a0_0, .slice A0_1 l0_1.length c0_1]] w fun e w' => ∃ v0_ : Value, e = .returned (v0_) ∧ Kd.R (Kd.int .i64) 3 w' w.heap.size (fun _ => True) v0_ r ∧ Below w.heap.size w w' := by
 have hu27 := Try.underlying27
 have HR0_1 := Aside0.mk hr0_1
 have HC0_1 := Aside0.mk hc0_1
 clear hr0_1 hc0_1
 have HB := Aside0.mk (Below.refl w.heap.size w)
 have H : ((zA.f k a0_0 l0_1).bind fun t601 => (if t601 = true then ((zW.f k a0_0 l0_1).bind fun t602 => (some t602)) else (some (([] : List Int))))) = some r := h
 clear h
 replace H := Option.bind_eq_some_iff.mp H
 obtain ⟨t601, A20, H⟩ := H
 replace H : (if t601 = true then ((zW.f k a0_0 l0_1).bind fun t602 => (some t602)) else (some (([] : List Int)))) = some r := H
 have A2 := Aside0.mk A20
 clear A20
 by_cases c3 : t601 = true
 ·subst c3
  have H1 : ((zW.f k a0_0 l0_1).bind fun t602 => (some t602)) = some r := by rw [if_pos rfl] at H; exact H
  clear H
  have H := H1
  clear H1
  replace H := Option.bind_eq_some_iff.mp H
  obtain ⟨t602, A40, H⟩ := H
  replace H : (some t602) = some r := H
  have A4 := Aside0.mk A40
  clear A40
  obtain rfl := Option.some.inj H
  go_enter Try.func94, Try.ntmps94
  go_wp2_with (first | ((with_reducible refine zi (N := 1) rfl ?_); refine zl ?hg (N := 1) ?hd (cs := #[.int .i64 a0_0, .slice A0_1 l0_1.length c0_1]) (t := 27) ?hr ?_; (case hd => rfl); (case hg => rfl); (case hr => exact sqG); intro gb600 hg w5 hbox hb; have n0_ := Aside0.mk (zc sqB hb); have n1_ := Aside0.mk (hbox); have n2_ := Aside0.mk ((sqS hg : w.heap.size ≤ gb600)); have n3_ := Aside0.mk ((sqS hg : w.heap.size ≤ gb600)); clear HB; have HB := n0_; have BK600 := n1_; have GW600 := n2_; have GE600 := n3_; clear n0_ n1_ n2_ n3_; clear hb hbox hg; have hcz6_0 : w5.cell? ⟨gb600, 0, none⟩ = some (.int .i64 a0_0) := (zb BK600.out 0).trans rfl; have hcz6_1 : w5.cell? ⟨gb600, 1, none⟩ = some (.slice A0_1 l0_1.length c0_1) := (zb BK600.out 1).trans rfl; have hfz6_0 := za BK600.out 0; have hfz6_1 := za BK600.out 1) | ((with_reducible refine zd (f := 37) rfl ?_); refine zn (some 4) rfl rfl Try.func37 (by kernel_rfl) rfl #[.agg #[.int .i64 a0_0, .slice A0_1 l0_1.length c0_1]] rfl sqM ?_; (with_reducible refine (zA.calls k a0_0 _ _ l0_1 true _ ?side1 ?side2 A2.out).mono ?_); (case side1 => exact sqC (Kd.zp HR0_1.out HB.out)); (case side2 => exact HC0_1.out); rintro e w7 ⟨rfl, hb⟩; refine ⟨_, rfl, ?_⟩; have n0_ := Aside0.mk (ze (g := gb600) (o := .cells #[.int .i64 a0_0, .slice A0_1 l0_1.length c0_1] 27 (0, 0)) (sqK BK600.out) hb); have n1_ := Aside0.mk (zc sqB hb); clear BK600; clear HB; have BK600 := n0_; have HB := n1_; clear n0_ n1_; (try clear hb); (try clear hb2); (try clear hk); (try clear hi); have hcz8_0 : w7.cell? ⟨gb600, 0, none⟩ = some (.int .i64 a0_0) := (zb BK600.out 0).trans rfl; have hcz8_1 : w7.cell? ⟨gb600, 1, none⟩ = some (.slice A0_1 l0_1.length c0_1) := (zb BK600.out 1).trans rfl; have hfz8_0 := za BK600.out 0; have hfz8_1 := za BK600.out 1) | ((with_reducible refine zd (f := 56) rfl ?_); refine zn (some 8) rfl rfl Try.func56 (by kernel_rfl) rfl #[.agg #[.int .i64 a0_0, .slice A0_1 l0_1.length c0_1]] rfl sqM ?_; (with_reducible refine (zW.calls k a0_0 _ _ l0_1 t602 _ ?side1 ?side2 A4.out).mono ?_); (case side1 => exact sqC (Kd.zp HR0_1.out HB.out)); (case side2 => exact HC0_1.out); rintro e w9 ⟨v603, rfl, ho0, hb⟩; refine ⟨_, rfl, ?_⟩; have n0_ := Aside0.mk (Kd.zD ho0 (zg sqB)); have n1_ := Aside0.mk (ze (g := gb600) (o := .cells #[.int .i64 a0_0, .slice A0_1 l0_1.length c0_1] 27 (0, 0)) (sqK BK600.out) hb); have n2_ := Aside0.mk (zc sqB hb); clear BK600; clear HB; have HO604 := n0_; have BK600 := n1_; have HB := n2_; clear n0_ n1_ n2_; (try clear hb); (try clear hb2); (try clear hk); (try clear hi); (try clear ho0)))
  go_ret
  exact ⟨_, sqE, sqR HO604.out, sqB⟩
 ·replace c3 := Bool.eq_false_iff.mpr c3
  subst c3
  have H1 : (some (([] : List Int))) = some r := by rw [if_neg (show ¬ (false = true) by decide)] at H; exact H
  clear H
  have H := H1
  clear H1
  obtain ⟨y605, hy605⟩ : ∃ y_ : List Int, y_ = (([] : List Int)) := ⟨_, rfl⟩
  replace H : (some y605) = some r := by first | (rw [hy605]; with_reducible exact H) | (have H2_ := (Option.bind_some _ _).symm.trans H; rw [hy605]; with_reducible exact H2_) | (have H2_ := (Option.bind_some _ _).symm.trans H; with_reducible exact H2_) | with_reducible exact H | (rw [hy605]; exact H) | exact H
  have Ny605 := Aside0.mk hy605
  clear hy605
  obtain rfl := Option.some.inj H
  go_enter Try.func94, Try.ntmps94
  go_wp2_with (first | ((with_reducible refine zi (N := 1) rfl ?_); refine zl ?hg (N := 1) ?hd (cs := #[.int .i64 a0_0, .slice A0_1 l0_1.length c0_1]) (t := 27) ?hr ?_; (case hd => rfl); (case hg => rfl); (case hr => exact sqG); intro gb600 hg w10 hbox hb; have n0_ := Aside0.mk (zc sqB hb); have n1_ := Aside0.mk (hbox); have n2_ := Aside0.mk ((sqS hg : w.heap.size ≤ gb600)); have n3_ := Aside0.mk ((sqS hg : w.heap.size ≤ gb600)); clear HB; have HB := n0_; have BK600 := n1_; have GW600 := n2_; have GE600 := n3_; clear n0_ n1_ n2_ n3_; clear hb hbox hg; have hcz11_0 : w10.cell? ⟨gb600, 0, none⟩ = some (.int .i64 a0_0) := (zb BK600.out 0).trans rfl; have hcz11_1 : w10.cell? ⟨gb600, 1, none⟩ = some (.slice A0_1 l0_1.length c0_1) := (zb BK600.out 1).trans rfl; have hfz11_0 := za BK600.out 0; have hfz11_1 := za BK600.out 1) | ((with_reducible refine zd (f := 37) rfl ?_); refine zn (some 4) rfl rfl Try.func37 (by kernel_rfl) rfl #[.agg #[.int .i64 a0_0, .slice A0_1 l0_1.length c0_1]] rfl sqM ?_; (with_reducible refine (zA.calls k a0_0 _ _ l0_1 false _ ?side1 ?side2 A2.out).mono ?_); (case side1 => exact sqC (Kd.zp HR0_1.out HB.out)); (case side2 => exact HC0_1.out); rintro e w12 ⟨rfl, hb⟩; refine ⟨_, rfl, ?_⟩; have n0_ := Aside0.mk (ze (g := gb600) (o := .cells #[.int .i64 a0_0, .slice A0_1 l0_1.length c0_1] 27 (0, 0)) (sqK BK600.out) hb); have n1_ := Aside0.mk (zc sqB hb); clear BK600; clear HB; have BK600 := n0_; have HB := n1_; clear n0_ n1_; (try clear hb); (try clear hb2); (try clear hk); (try clear hi)) | ((with_reducible refine zi (N := 6) rfl ?_); refine Kd.jx (Kd.int .i64) _ 3 ?hg (N := 6) ?hd (xs := ([] : List Int)) (inner := []) (ok := fun _ => True) (okp := fun _ => True) ?hr ?hp (fun _ hk => hk) trivial (Below.refl _ _) (Nat.le_refl _) (by simp) ?_; (case hd => rfl); (case hg => rfl); (case hr => exact sqG); (case hp => exact (qT.none _ _)); intro v606 w13 ho14 hb hg_ hnew_; clear hg_ hnew_; (first | rw [← Ny605.out] at ho14 | (simp only [Int.reduceToNat] at ho14; rw [← Ny605.out] at ho14)); have n0_ := Aside0.mk (Kd.zD ho14 (zg sqB)); have n1_ := Aside0.mk (ze (g := gb600) (o := .cells #[.int .i64 a0_0, .slice A0_1 l0_1.length c0_1] 27 (0, 0)) (sqK BK600.out) hb); have n2_ := Aside0.mk (zc sqB hb); clear BK600; clear HB; have HO607 := n0_; have BK600 := n1_; have HB := n2_; clear n0_ n1_ n2_; clear hb ho14))
  go_ret
  exact ⟨_, sqE, sqR HO607.out, sqB⟩

def qO.l0 : Nat → List Int → Int → Int → Option (Int)
 | 0, _, _, _ => none
 | k + 1, x3, x4, x5 => if x5 < (x3.length : Int) then (if 0 ≤ x5 then ((zY.f k (rd x3 x5)).bind fun t613 => (if x4 = 0 then (qO.l0 k x3 t613 (wrap64 (x5 + 1))) else (if t613 < x4 then (qO.l0 k x3 t613 (wrap64 (x5 + 1))) else (qO.l0 k x3 x4 (wrap64 (x5 + 1)))))) else (none)) else (some x4)
def qO.f (k : Nat) (a0_0 : Int) (l0_1 : List Int) : Option (Int) := (vw.f k a0_0 l0_1).bind fun t609 => (qO.l0 k t609 0 0)
theorem qO.calls (k : Nat) (a0_0 : Int) (A0_1 : Option Addr) (c0_1 : Nat) (l0_1 : List Int) (r : Int) (w : World) (hr0_1 : Kd.C (Kd.int .i64) w A0_1 l0_1.length l0_1) (hc0_1 : l0_1.length ≤ c0_1) (h : qO.f k a0_0 l0_1 = some r) :
  Calls Try.prog 59 #[.agg #[.int .i64 a0_0, .slice A0_1 l0_1.length c0_1]] w fun e w' => e = .returned (.int .i64 r) ∧ Below w.heap.size w w' := by
 have hu27 := Try.underlying27
 have HR0_1 := Aside0.mk hr0_1
 have HC0_1 := Aside0.mk hc0_1
 clear hr0_1 hc0_1
 have HB := Aside0.mk (Below.refl w.heap.size w)
 have H : ((vw.f k a0_0 l0_1).bind fun t609 => (qO.l0 k t609 0 0)) = some r := h
 clear h
 replace H := Option.bind_eq_some_iff.mp H
 obtain ⟨t609, A20, H⟩ := H
 replace H : (qO.l0 k t609 0 0) = some r := H
 have A2 := Aside0.mk A20
 clear A20
 have H' := Aside0.mk H
 clear H
 go_enter Try.func59, Try.ntmps59
 go_wp2_with (first | ((with_reducible refine zi (N := 1) rfl ?_); refine zl ?hg (N := 1) ?hd (cs := #[.int .i64 a0_0, .slice A0_1 l0_1.length c0_1]) (t := 27) ?hr ?_; (case hd => rfl); (case hg => rfl); (case hr => exact sqG); intro gb608 hg w3 hbox hb; have n0_ := Aside0.mk (zc sqB hb); have n1_ := Aside0.mk (hbox); have n2_ := Aside0.mk ((sqS hg : w.heap.size ≤ gb608)); have n3_ := Aside0.mk ((sqS hg : w.heap.size ≤ gb608)); clear HB; have HB := n0_; have BK608 := n1_; have GW608 := n2_; have GE608 := n3_; clear n0_ n1_ n2_ n3_; clear hb hbox hg; have hcz4_0 : w3.cell? ⟨gb608, 0, none⟩ = some (.int .i64 a0_0) := (zb BK608.out 0).trans rfl; have hcz4_1 : w3.cell? ⟨gb608, 1, none⟩ = some (.slice A0_1 l0_1.length c0_1) := (zb BK608.out 1).trans rfl; have hfz4_0 := za BK608.out 0; have hfz4_1 := za BK608.out 1) | ((with_reducible refine zd (f := 94) rfl ?_); refine zn (some 8) rfl rfl Try.func94 (by kernel_rfl) rfl #[.agg #[.int .i64 a0_0, .slice A0_1 l0_1.length c0_1]] rfl sqM ?_; (with_reducible refine (vw.calls k a0_0 _ _ l0_1 t609 _ ?side1 ?side2 A2.out).mono ?_); (case side1 => exact sqC (Kd.zp HR0_1.out HB.out)); (case side2 => exact HC0_1.out); rintro e w5 ⟨v610, rfl, ho0, hb⟩; refine ⟨_, rfl, ?_⟩; have n0_ := Aside0.mk (Kd.zD ho0 (zg sqB)); have n1_ := Aside0.mk (ze (g := gb608) (o := .cells #[.int .i64 a0_0, .slice A0_1 l0_1.length c0_1] 27 (0, 0)) (sqK BK608.out) hb); have n2_ := Aside0.mk (zc sqB hb); clear BK608; clear HB; have HO611 := n0_; have BK608 := n1_; have HB := n2_; clear n0_ n1_ n2_; (try clear hb); (try clear hb2); (try clear hk); (try clear hi); (try clear ho0)))
 go_loopg [4, 5] k (fun kq v4 v5 w' => ∃ (x4_1 : Int) (x5_1 : Int), v4 = .int .i64 x4_1 ∧ v5 = .int .i64 x5_1 ∧ Aside0 (qO.l0 kq t609 x4_1 x5_1 = some r) ∧ Aside0 (kq ≤ k) ∧ Aside0 (Kd.R (Kd.int .i64) 3 w' w.heap.size (fun _ => True) v610 t609) ∧ Aside0 (w'.heap[gb608]? = some (.cells #[.int .i64 a0_0, (.slice A0_1 l0_1.length c0_1)] 27 (0, 0))) ∧ Aside0 (Below w.heap.size w w'))
 case atStart => exact ⟨(0), (0), (sqD), (sqD), H', ⟨Nat.le_refl _⟩, ⟨sqR HO611.out⟩, ⟨sqK BK608.out⟩, ⟨sqB⟩⟩
 case round =>
  clear H'
  try clear p2
  try clear c5
  try clear hcz4_0
  try clear hcz4_1
  try clear hfz4_0
  try clear hfz4_1
  obtain ⟨x4_1, x5_1, rfl, rfl, HA, HK1, HO_3, BK608, HB⟩ := hrel
  cases gk with
  | zero => exact absurd HA.out (by simp [qO.l0])
  | succ k1 =>
   have H := HA.out
   clear HA
   simp only [qO.l0] at H
   by_cases c6 : x5_1 < (t609.length : Int)
   ·rw [if_pos c6] at H
    have c6b0 : decide (x5_1 < (t609.length : Int)) = true := decide_eq_true c6
    clear c6
    by_cases c7 : 0 ≤ x5_1
    ·rw [if_pos c7] at H
     have c7b0 : decide (0 ≤ x5_1) = true := decide_eq_true c7
     clear c7
     replace H := Option.bind_eq_some_iff.mp H
     obtain ⟨t613, A80, H⟩ := H
     replace H : (if x4_1 = 0 then (qO.l0 k1 t609 t613 (wrap64 (x5_1 + 1))) else (if t613 < x4_1 then (qO.l0 k1 t609 t613 (wrap64 (x5_1 + 1))) else (qO.l0 k1 t609 x4_1 (wrap64 (x5_1 + 1))))) = some r := H
     have A8 := Aside0.mk A80
     clear A80
     by_cases c9 : x4_1 = 0
     ·rw [if_pos c9] at H
      have c9b0 : (x4_1 == 0) = true := beq_iff_eq.mpr c9
      have c9b1 : (x4_1 != 0) = false := bne_eq_false_iff_eq.mpr c9
      clear c9
      have H' := Aside0.mk H
      clear H
      obtain ⟨Ao10, co10, eo10⟩ := Kd.zR HO_3.out
      subst eo10
      have p612 : 0 ≤ (x5_1 : Int) := of_decide_eq_true sqA
      have q612 : x5_1 < (t609.length : Int) := of_decide_eq_true sqA
      obtain ⟨ad612, e612, hx612_0⟩ := Kd.zT (Kd.zh HO_3.out).2.2 x5_1 p612 q612
      cases e612
      replace p612 := eq_true p612
      replace q612 := eq_true q612
      go_wp2_with (first | ((with_reducible refine zd (f := 88) rfl ?_); refine zn (some 19) rfl rfl Try.func88 (by kernel_rfl) rfl #[.int .i64 (rd t609 x5_1)] rfl sqM ?_; (with_reducible refine (zY.calls k1 (rd t609 x5_1) t613 _ A8.out).mono ?_); rintro e w' ⟨rfl, ⟨nd, rfl⟩⟩; refine ⟨_, rfl, ?_⟩))
      go_roundg k1
      case measure => have := HK1.out; omega
      case rel => exact ⟨(t613), (wrap64 (x5_1 + 1)), (sqD), (sqD), H', ⟨by have := HK1.out; omega⟩, ⟨sqR HO_3.out⟩, ⟨sqK BK608.out⟩, ⟨sqB⟩⟩
     ·rw [if_neg c9] at H
      have c9b0 : (x4_1 == 0) = false := beq_eq_false_iff_ne.mpr c9
      have c9b1 : (x4_1 != 0) = true := bne_iff_ne.mpr c9
      by_cases c11 : t613 < x4_1
      ·rw [if_pos c11] at H
       have c11b0 : decide (t613 < x4_1) = true := decide_eq_true c11
       clear c11
       have H' := Aside0.mk H
       clear H
       obtain ⟨Ao12, co12, eo12⟩ := Kd.zR HO_3.out
       subst eo12
       have p612 : 0 ≤ (x5_1 : Int) := of_decide_eq_true sqA
       have q612 : x5_1 < (t609.length : Int) := of_decide_eq_true sqA
       obtain ⟨ad612, e612, hx612_0⟩ := Kd.zT (Kd.zh HO_3.out).2.2 x5_1 p612 q612
       cases e612
       replace p612 := eq_true p612
       replace q612 := eq_true q612
       go_wp2_with (first | ((with_reducible refine zd (f := 88) rfl ?_); refine zn (some 19) rfl rfl Try.func88 (by kernel_rfl) rfl #[.int .i64 (rd t609 x5_1)] rfl sqM ?_; (with_reducible refine (zY.calls k1 (rd t609 x5_1) t613 _ A8.out).mono ?_); rintro e w' ⟨rfl, ⟨nd, rfl⟩⟩; refine ⟨_, rfl, ?_⟩))
       go_roundg k1
       case measure => have := HK1.out; omega
       case rel => exact ⟨(t613), (wrap64 (x5_1 + 1)), (sqD), (sqD), H', ⟨by have := HK1.out; omega⟩, ⟨sqR HO_3.out⟩, ⟨sqK BK608.out⟩, ⟨sqB⟩⟩
      ·rw [if_neg c11] at H
       have c11b0 : decide (t613 < x4_1) = false := decide_eq_false c11
       clear c11
       have H' := Aside0.mk H
       clear H
       obtain ⟨Ao13, co13, eo13⟩ := Kd.zR HO_3.out
       subst eo13
       have p612 : 0 ≤ (x5_1 : Int) := of_decide_eq_true sqA
       have q612 : x5_1 < (t609.length : Int) := of_decide_eq_true sqA
       obtain ⟨ad612, e612, hx612_0⟩ := Kd.zT (Kd.zh HO_3.out).2.2 x5_1 p612 q612
       cases e612
       replace p612 := eq_true p612
       replace q612 := eq_true q612
       go_wp2_with (first | ((with_reducible refine zd (f := 88) rfl ?_); refine zn (some 19) rfl rfl Try.func88 (by kernel_rfl) rfl #[.int .i64 (rd t609 x5_1)] rfl sqM ?_; (with_reducible refine (zY.calls k1 (rd t609 x5_1) t613 _ A8.out).mono ?_); rintro e w' ⟨rfl, ⟨nd, rfl⟩⟩; refine ⟨_, rfl, ?_⟩))
       go_roundg k1
       case measure => have := HK1.out; omega
       case rel => exact ⟨(x4_1), (wrap64 (x5_1 + 1)), (sqD), (sqD), H', ⟨by have := HK1.out; omega⟩, ⟨sqR HO_3.out⟩, ⟨sqK BK608.out⟩, ⟨sqB⟩⟩
    ·rw [if_neg c7] at H
     exact absurd H (by simp)
   ·rw [if_neg c6] at H
    have c6b0 : decide (x5_1 < (t609.length : Int)) = false := decide_eq_false c6
    clear c6
    obtain rfl := Option.some.inj H
    obtain ⟨Ao14, co14, eo14⟩ := Kd.zR HO_3.out
    subst eo14
    go_wp2
    go_ret
    exact ⟨sqE, sqB⟩

def ZA.f (k : Nat) (a0_0 : Int) (l0_1 : List Int) : Option (Bool) := (qO.f k a0_0 l0_1).bind fun t615 => ((zA.f k a0_0 l0_1).bind fun t616 => (if t616 = true then (if t615 = 0 then (some true) else (some (decide (t615 > 2)))) else (some false)))
theorem ZA.calls (k : Nat) (a0_0 : Int) (A0_1 : Option Addr) (c0_1 : Nat) (l0_1 : List Int) (r : Bool) (w : World) (hr0_1 : Kd.C (Kd.int .i64) w A0_1 l0_1.length l0_1) (hc0_1 : l0_1.length ≤ c0_1) (h : ZA.f k a0_0 l0_1 = some r) :
  Calls Try.prog 28 #[.agg #[.int .i64 a0_0, .slice A0_1 l0_1.length c0_1]] w fun e w' => e = .returned (.bool r) ∧ Below w.heap.size w w' := by
 have hu27 := Try.underlying27
 have HR0_1 := Aside0.mk hr0_1
 have HC0_1 := Aside0.mk hc0_1
 clear hr0_1 hc0_1
 have HB := Aside0.mk (Below.refl w.heap.size w)
 have H : ((qO.f k a0_0 l0_1).bind fun t615 => ((zA.f k a0_0 l0_1).bind fun t616 => (if t616 = true then (if t615 = 0 then (some true) else (some (decide (t615 > 2)))) else (some false)))) = some r := h
 clear h
 replace H := Option.bind_eq_some_iff.mp H
 obtain ⟨t615, A20, H⟩ := H
 replace H : ((zA.f k a0_0 l0_1).bind fun t616 => (if t616 = true then (if t615 = 0 then (some true) else (some (decide (t615 > 2)))) else (some false))) = some r := H
 have A2 := Aside0.mk A20
 clear A20
 replace H := Option.bind_eq_some_iff.mp H
 obtain ⟨t616, A30, H⟩ := H
 replace H : (if t616 = true then (if t615 = 0 then (some true) else (some (decide (t615 > 2)))) else (some false)) = some r := H
 have A3 := Aside0.mk A30
 clear A30
 by_cases c4 : t616 = true
 ·subst c4
  have H1 : (if t615 = 0 then (some true) else (some (decide (t615 > 2)))) = some r := by rw [if_pos rfl] at H; exact H
  clear H
  have H := H1
  clear H1
  by_cases c5 : t615 = 0
  ·rw [if_pos c5] at H
   have c5b0 : (t615 == 0) = true := beq_iff_eq.mpr c5
   have c5b1 : (t615 != 0) = false := bne_eq_false_iff_eq.mpr c5
   clear c5
   obtain rfl := Option.some.inj H
   go_enter Try.func28, Try.ntmps28
   go_wp2_with (first | ((with_reducible refine zi (N := 1) rfl ?_); refine zl ?hg (N := 1) ?hd (cs := #[.int .i64 a0_0, .slice A0_1 l0_1.length c0_1]) (t := 27) ?hr ?_; (case hd => rfl); (case hg => rfl); (case hr => exact sqG); intro gb614 hg w6 hbox hb; have n0_ := Aside0.mk (zc sqB hb); have n1_ := Aside0.mk (hbox); have n2_ := Aside0.mk ((sqS hg : w.heap.size ≤ gb614)); have n3_ := Aside0.mk ((sqS hg : w.heap.size ≤ gb614)); clear HB; have HB := n0_; have BK614 := n1_; have GW614 := n2_; have GE614 := n3_; clear n0_ n1_ n2_ n3_; clear hb hbox hg; have hcz7_0 : w6.cell? ⟨gb614, 0, none⟩ = some (.int .i64 a0_0) := (zb BK614.out 0).trans rfl; have hcz7_1 : w6.cell? ⟨gb614, 1, none⟩ = some (.slice A0_1 l0_1.length c0_1) := (zb BK614.out 1).trans rfl; have hfz7_0 := za BK614.out 0; have hfz7_1 := za BK614.out 1) | ((with_reducible refine zd (f := 59) rfl ?_); refine zn (some 5) rfl rfl Try.func59 (by kernel_rfl) rfl #[.agg #[.int .i64 a0_0, .slice A0_1 l0_1.length c0_1]] rfl sqM ?_; (with_reducible refine (qO.calls k a0_0 _ _ l0_1 t615 _ ?side1 ?side2 A2.out).mono ?_); (case side1 => exact sqC (Kd.zp HR0_1.out HB.out)); (case side2 => exact HC0_1.out); rintro e w8 ⟨rfl, hb⟩; refine ⟨_, rfl, ?_⟩; have n0_ := Aside0.mk (ze (g := gb614) (o := .cells #[.int .i64 a0_0, .slice A0_1 l0_1.length c0_1] 27 (0, 0)) (sqK BK614.out) hb); have n1_ := Aside0.mk (zc sqB hb); clear BK614; clear HB; have BK614 := n0_; have HB := n1_; clear n0_ n1_; (try clear hb); (try clear hb2); (try clear hk); (try clear hi); have hcz9_0 : w8.cell? ⟨gb614, 0, none⟩ = some (.int .i64 a0_0) := (zb BK614.out 0).trans rfl; have hcz9_1 : w8.cell? ⟨gb614, 1, none⟩ = some (.slice A0_1 l0_1.length c0_1) := (zb BK614.out 1).trans rfl; have hfz9_0 := za BK614.out 0; have hfz9_1 := za BK614.out 1) | ((with_reducible refine zd (f := 37) rfl ?_); refine zn (some 7) rfl rfl Try.func37 (by kernel_rfl) rfl #[.agg #[.int .i64 a0_0, .slice A0_1 l0_1.length c0_1]] rfl sqM ?_; (with_reducible refine (zA.calls k a0_0 _ _ l0_1 true _ ?side1 ?side2 A3.out).mono ?_); (case side1 => exact sqC (Kd.zp HR0_1.out HB.out)); (case side2 => exact HC0_1.out); rintro e w10 ⟨rfl, hb⟩; refine ⟨_, rfl, ?_⟩; have n0_ := Aside0.mk (ze (g := gb614) (o := .cells #[.int .i64 a0_0, .slice A0_1 l0_1.length c0_1] 27 (0, 0)) (sqK BK614.out) hb); have n1_ := Aside0.mk (zc sqB hb); clear BK614; clear HB; have BK614 := n0_; have HB := n1_; clear n0_ n1_; (try clear hb); (try clear hb2); (try clear hk); (try clear hi)))
   go_ret
   exact ⟨sqE, sqB⟩
  ·rw [if_neg c5] at H
   have c5b0 : (t615 == 0) = false := beq_eq_false_iff_ne.mpr c5
   have c5b1 : (t615 != 0) = true := bne_iff_ne.mpr c5
   obtain rfl := Option.some.inj H
   go_enter Try.func28, Try.ntmps28
   go_wp2_with (first | ((with_reducible refine zi (N := 1) rfl ?_); refine zl ?hg (N := 1) ?hd (cs := #[.int .i64 a0_0, .slice A0_1 l0_1.length c0_1]) (t := 27) ?hr ?_; (case hd => rfl); (case hg => rfl); (case hr => exact sqG); intro gb614 hg w11 hbox hb; have n0_ := Aside0.mk (zc sqB hb); have n1_ := Aside0.mk (hbox); have n2_ := Aside0.mk ((sqS hg : w.heap.size ≤ gb614)); have n3_ := Aside0.mk ((sqS hg : w.heap.size ≤ gb614)); clear HB; have HB := n0_; have BK614 := n1_; have GW614 := n2_; have GE614 := n3_; clear n0_ n1_ n2_ n3_; clear hb hbox hg; have hcz12_0 : w11.cell? ⟨gb614, 0, none⟩ = some (.int .i64 a0_0) := (zb BK614.out 0).trans rfl; have hcz12_1 : w11.cell? ⟨gb614, 1, none⟩ = some (.slice A0_1 l0_1.length c0_1) := (zb BK614.out 1).trans rfl; have hfz12_0 := za BK614.out 0; have hfz12_1 := za BK614.out 1) | ((with_reducible refine zd (f := 59) rfl ?_); refine zn (some 5) rfl rfl Try.func59 (by kernel_rfl) rfl #[.agg #[.int .i64 a0_0, .slice A0_1 l0_1.length c0_1]] rfl sqM ?_; (with_reducible refine (qO.calls k a0_0 _ _ l0_1 t615 _ ?side1 ?side2 A2.out).mono ?_); (case side1 => exact sqC (Kd.zp HR0_1.out HB.out)); (case side2 => exact HC0_1.out); rintro e w13 ⟨rfl, hb⟩; refine ⟨_, rfl, ?_⟩; have n0_ := Aside0.mk (ze (g := gb614) (o := .cells #[.int .i64 a0_0, .slice A0_1 l0_1.length c0_1] 27 (0, 0)) (sqK BK614.out) hb); have n1_ := Aside0.mk (zc sqB hb); clear BK614; clear HB; have BK614 := n0_; have HB := n1_; clear n0_ n1_; (try clear hb); (try clear hb2); (try clear hk); (try clear hi); have hcz14_0 : w13.cell? ⟨gb614, 0, none⟩ = some (.int .i64 a0_0) := (zb BK614.out 0).trans rfl; have hcz14_1 : w13.cell? ⟨gb614, 1, none⟩ = some (.slice A0_1 l0_1.length c0_1) := (zb BK614.out 1).trans rfl; have hfz14_0 := za BK614.out 0; have hfz14_1 := za BK614.out 1) | ((with_reducible refine zd (f := 37) rfl ?_); refine zn (some 7) rfl rfl Try.func37 (by kernel_rfl) rfl #[.agg #[.int .i64 a0_0, .slice A0_1 l0_1.length c0_1]] rfl sqM ?_; (with_reducible refine (zA.calls k a0_0 _ _ l0_1 true _ ?side1 ?side2 A3.out).mono ?_); (case side1 => exact sqC (Kd.zp HR0_1.out HB.out)); (case side2 => exact HC0_1.out); rintro e w15 ⟨rfl, hb⟩; refine ⟨_, rfl, ?_⟩; have n0_ := Aside0.mk (ze (g := gb614) (o := .cells #[.int .i64 a0_0, .slice A0_1 l0_1.length c0_1] 27 (0, 0)) (sqK BK614.out) hb); have n1_ := Aside0.mk (zc sqB hb); clear BK614; clear HB; have BK614 := n0_; have HB := n1_; clear n0_ n1_; (try clear hb); (try clear hb2); (try clear hk); (try clear hi)))
   go_ret
   exact ⟨sqE, sqB⟩
 ·replace c4 := Bool.eq_false_iff.mpr c4
  subst c4
  have H1 : (some false) = some r := by rw [if_neg (show ¬ (false = true) by decide)] at H; exact H
  clear H
  have H := H1
  clear H1
  obtain rfl := Option.some.inj H
  go_enter Try.func28, Try.ntmps28
  go_wp2_with (first | ((with_reducible refine zi (N := 1) rfl ?_); refine zl ?hg (N := 1) ?hd (cs := #[.int .i64 a0_0, .slice A0_1 l0_1.length c0_1]) (t := 27) ?hr ?_; (case hd => rfl); (case hg => rfl); (case hr => exact sqG); intro gb614 hg w16 hbox hb; have n0_ := Aside0.mk (zc sqB hb); have n1_ := Aside0.mk (hbox); have n2_ := Aside0.mk ((sqS hg : w.heap.size ≤ gb614)); have n3_ := Aside0.mk ((sqS hg : w.heap.size ≤ gb614)); clear HB; have HB := n0_; have BK614 := n1_; have GW614 := n2_; have GE614 := n3_; clear n0_ n1_ n2_ n3_; clear hb hbox hg; have hcz17_0 : w16.cell? ⟨gb614, 0, none⟩ = some (.int .i64 a0_0) := (zb BK614.out 0).trans rfl; have hcz17_1 : w16.cell? ⟨gb614, 1, none⟩ = some (.slice A0_1 l0_1.length c0_1) := (zb BK614.out 1).trans rfl; have hfz17_0 := za BK614.out 0; have hfz17_1 := za BK614.out 1) | ((with_reducible refine zd (f := 59) rfl ?_); refine zn (some 5) rfl rfl Try.func59 (by kernel_rfl) rfl #[.agg #[.int .i64 a0_0, .slice A0_1 l0_1.length c0_1]] rfl sqM ?_; (with_reducible refine (qO.calls k a0_0 _ _ l0_1 t615 _ ?side1 ?side2 A2.out).mono ?_); (case side1 => exact sqC (Kd.zp HR0_1.out HB.out)); (case side2 => exact HC0_1.out); rintro e w18 ⟨rfl, hb⟩; refine ⟨_, rfl, ?_⟩; have n0_ := Aside0.mk (ze (g := gb614) (o := .cells #[.int .i64 a0_0, .slice A0_1 l0_1.length c0_1] 27 (0, 0)) (sqK BK614.out) hb); have n1_ := Aside0.mk (zc sqB hb); clear BK614; clear HB; have BK614 := n0_; have HB := n1_; clear n0_ n1_; (try clear hb); (try clear hb2); (try clear hk); (try clear hi); have hcz19_0 : w18.cell? ⟨gb614, 0, none⟩ = some (.int .i64 a0_0) := (zb BK614.out 0).trans rfl; have hcz19_1 : w18.cell? ⟨gb614, 1, none⟩ = some (.slice A0_1 l0_1.length c0_1) := (zb BK614.out 1).trans rfl; have hfz19_0 := za BK614.out 0; have hfz19_1 := za BK614.out 1) | ((with_reducible refine zd (f := 37) rfl ?_); refine zn (some 7) rfl rfl Try.func37 (by kernel_rfl) rfl #[.agg #[.int .i64 a0_0, .slice A0_1 l0_1.length c0_1]] rfl sqM ?_; (with_reducible refine (zA.calls k a0_0 _ _ l0_1 false _ ?side1 ?side2 A3.out).mono ?_); (case side1 => exact sqC (Kd.zp HR0_1.out HB.out)); (case side2 => exact HC0_1.out); rintro e w20 ⟨rfl, hb⟩; refine ⟨_, rfl, ?_⟩; have n0_ := Aside0.mk (ze (g := gb614) (o := .cells #[.int .i64 a0_0, .slice A0_1 l0_1.length c0_1] 27 (0, 0)) (sqK BK614.out) hb); have n1_ := Aside0.mk (zc sqB hb); clear BK614; clear HB; have BK614 := n0_; have HB := n1_; clear n0_ n1_; (try clear hb); (try clear hb2); (try clear hk); (try clear hi)))
  go_ret
  exact ⟨sqE, sqB⟩

end Go.Proofs.Yteggmbhcnhbamaa.F
end
