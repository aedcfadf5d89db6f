/- Several texts of this session in one: Fx1. Conditions: as each theorem says. -/
import Derived.Test.YteggmbhcnhbamaaGreatZFromFlats0
set_option maxHeartbeats 8000000
set_option maxRecDepth 100000
section
namespace Go.Proofs.YteggmbhcnhbamaaGreat.F
open Go.RowKit Go.Proofs.YteggmbhcnhbamaaGreatW.PrintWords Go.Proofs.YteggmbhcnhbamaaGreatW.PrintLast Go.Proofs.YteggmbhcnhbamaaGreatW.PrintMore
attribute [local go_sem] jG jJ jZ jV jr jq jF jI   -- for this text's walks alone
set_option linter.unusedVariables false
set_option linter.unusedSimpArgs false

def qV.f (a0 : Int) (a1 : Int) (a2 : Int) : Option (Bool) := if a0 ≥ a1 then (some (decide (a0 ≤ a2))) else (some false)
theorem qV.calls (a0 : Int) (a1 : Int) (a2 : Int) (r : Bool) (w : World) (h : qV.f a0 a1 a2 = some r) :
  Calls Tryz.prog 27 #[.int .i64 a0, .int .i64 a1, .int .i64 a2] w fun e w' => e = .returned (.bool r) ∧ zl w w' := by
 have H : (if a0 ≥ a1 then (some (decide (a0 ≤ a2))) else (some false)) = some r := h
 clear h
 by_cases c4 : a0 ≥ a1
 ·rw [if_pos c4] at H
  have c4b0 : decide (a1 ≤ a0) = true := decide_eq_true c4
  clear c4
  obtain rfl := Option.some.inj H
  go_enter Tryz.func27, Tryz.ntmps27
  go_wp2
  go_ret
  exact ⟨sqD, by repeat (first | exact zl.refl _ | apply zl.step)⟩
 ·rw [if_neg c4] at H
  have c4b0 : decide (a1 ≤ a0) = false := decide_eq_false c4
  clear c4
  obtain rfl := Option.some.inj H
  go_enter Tryz.func27, Tryz.ntmps27
  go_wp2
  go_ret
  exact ⟨sqD, by repeat (first | exact zl.refl _ | apply zl.step)⟩

def qL.f (a0 : Int) (a1 : Int) : Option (Bool) := (qV.f a0 0 8).bind fun t101 => (if t101 = true then (if 0 ≤ (IntKind.u64.wrap (a0)) then ((qV.f a1 0 (wrap64 ((shl .i64 1 (IntKind.u64.wrap (a0))) - 1))).bind fun t102 => (some t102)) else (none)) else (some false))
theorem qL.calls (a0 : Int) (a1 : Int) (r : Bool) (w : World) (h : qL.f a0 a1 = some r) :
  Calls Tryz.prog 26 #[.int .i64 a0, .int .i64 a1] w fun e w' => e = .returned (.bool r) ∧ zl w w' := by
 have H : ((qV.f a0 0 8).bind fun t101 => (if t101 = true then (if 0 ≤ (IntKind.u64.wrap (a0)) then ((qV.f a1 0 (wrap64 ((shl .i64 1 (IntKind.u64.wrap (a0))) - 1))).bind fun t102 => (some t102)) else (none)) else (some false))) = some r := h
 clear h
 replace H := Option.bind_eq_some_iff.mp H
 obtain ⟨t101, A30, H⟩ := H
 replace H : (if t101 = true then (if 0 ≤ (IntKind.u64.wrap (a0)) then ((qV.f a1 0 (wrap64 ((shl .i64 1 (IntKind.u64.wrap (a0))) - 1))).bind fun t102 => (some t102)) else (none)) else (some false)) = some r := H
 have A3 := Aside0.mk A30
 clear A30
 by_cases c4 : t101 = true
 ·subst c4
  have H1 : (if 0 ≤ (IntKind.u64.wrap (a0)) then ((qV.f a1 0 (wrap64 ((shl .i64 1 (IntKind.u64.wrap (a0))) - 1))).bind fun t102 => (some t102)) else (none)) = some r := by rw [if_pos rfl] at H; exact H
  clear H
  have H := H1
  clear H1
  obtain ⟨ji5, hji5⟩ : ∃ j_ : Int, (IntKind.u64.wrap (a0)) = j_ := ⟨_, rfl⟩
  replace H : (if 0 ≤ (ji5) then ((qV.f a1 0 (wrap64 ((shl .i64 1 (ji5)) - 1))).bind fun t102 => (some t102)) else (none)) = some r := by first | (rw [hji5] at H; exact H) | (simp only [hji5] at H ⊢; exact H)
  (try rw [hji5] at A3)
  by_cases c6 : 0 ≤ (ji5)
  ·rw [if_pos c6] at H
   have c6b0 := eq_true c6
   have c6b1 : decide (0 ≤ (ji5)) = true := decide_eq_true c6
   clear c6
   obtain ⟨ji7, hji7⟩ : ∃ j_ : Int, (shl .i64 1 (ji5)) = j_ := ⟨_, rfl⟩
   replace H : ((qV.f a1 0 (wrap64 ((ji7) - 1))).bind fun t102 => (some t102)) = some r := by first | (rw [hji7] at H; exact H) | (simp only [hji7] at H ⊢; exact H)
   (try rw [hji7] at A3)
   have hji7_ : (IntKind.i64.wrap (1 * 2 ^ min (ji5).toNat 64)) = ji7 := hji7
   have hji7z : (ji5) ≤ 64 → (IntKind.i64.wrap (1 * 2 ^ (ji5).toNat)) = ji7 := vB hji7
   have hji7u : (IntKind.i64.wrap (2 ^ min (ji5).toNat 64)) = ji7 := by have h_ := hji7_; rw [Int.one_mul] at h_; exact h_
   have hji7v : (ji5) ≤ 64 → (IntKind.i64.wrap (2 ^ (ji5).toNat)) = ji7 := fun hle_ => by have h_ := hji7z hle_; rw [Int.one_mul] at h_; exact h_
   have hji7y : (wrap64 (1 * 2 ^ min (ji5).toNat 64)) = ji7 := (zi _).symm.trans hji7_
   have hji7x : (ji5) ≤ 64 → (wrap64 (1 * 2 ^ (ji5).toNat)) = ji7 := fun h_ => (zi _).symm.trans (hji7z h_)
   replace H := Option.bind_eq_some_iff.mp H
   obtain ⟨t102, A80, H⟩ := H
   replace H : (some t102) = some r := H
   have A8 := Aside0.mk A80
   clear A80
   obtain rfl := Option.some.inj H
   go_enter Tryz.func26, Tryz.ntmps26
   go_wp2_with (first | ((with_reducible refine ze (f := 27) rfl ?_); refine zv (some 6) rfl rfl Tryz.func27 (by kernel_rfl) rfl #[.int .i64 a0, .int .i64 0, .int .i64 8] rfl sqM ?_; (with_reducible refine (qV.calls a0 0 8 true _ A3.out).mono ?_); rintro e w' ⟨rfl, ⟨nd, rfl⟩⟩; refine ⟨_, rfl, ?_⟩) | (go_at_call 27; (try simp only [zi, zj]); (with_reducible refine (qV.calls a1 0 (wrap64 ((ji7) - 1)) t102 _ A8.out).mono ?_); rintro e w' ⟨rfl, ⟨nd, rfl⟩⟩))
   go_ret
   exact ⟨by first | rfl | (simp; done) | (simp only [← hji5, ← hji7] <;> (first | rfl | simp)) | (simp [*]; done), by repeat (first | exact zl.refl _ | apply zl.step)⟩
  ·rw [if_neg c6] at H
   exact absurd H (by simp)
 ·replace c4 := Bool.eq_false_iff.mpr c4
  subst c4
  have H1 : (some false) = some r := by rw [if_neg (show ¬ (false = true) by decide)] at H; exact H
  clear H
  have H := H1
  clear H1
  obtain rfl := Option.some.inj H
  go_enter Tryz.func26, Tryz.ntmps26
  go_wp2_with (first | ((with_reducible refine ze (f := 27) rfl ?_); refine zv (some 6) rfl rfl Tryz.func27 (by kernel_rfl) rfl #[.int .i64 a0, .int .i64 0, .int .i64 8] rfl sqM ?_; (with_reducible refine (qV.calls a0 0 8 false _ A3.out).mono ?_); rintro e w' ⟨rfl, ⟨nd, rfl⟩⟩; refine ⟨_, rfl, ?_⟩))
  go_ret
  exact ⟨sqD, by repeat (first | exact zl.refl _ | apply zl.step)⟩

def zS.l0 : Nat → Int → List Int → Int → Option (Bool)
 | 0, _, _, _ => none
 | k + 1, x0, x1, x5 => if x5 < (x1.length : Int) then (if 0 ≤ x5 then ((qL.f x0 (rd x1 x5)).bind fun t104 => (if t104 = true then (if x5 > 0 then (if 0 ≤ (wrap64 (x5 - 1)) then (if (wrap64 (x5 - 1)) < (x1.length : Int) then (if (rd x1 (wrap64 (x5 - 1))) ≥ (rd x1 x5) then (some false) else (zS.l0 k x0 x1 (wrap64 (x5 + 1)))) else (none)) else (none)) else (zS.l0 k x0 x1 (wrap64 (x5 + 1)))) else (some false))) else (none)) else ((qV.f x0 0 8).bind fun t107 => (some t107))
def zS.f (k : Nat) (a0 : Int) (l1 : List Int) : Option (Bool) := zS.l0 k a0 l1 0
theorem zS.calls (k : Nat) (a0 : Int) (A1 : Option Addr) (c1 : Nat) (l1 : List Int) (r : Bool) (w : World) (hr1 : Kd.C (Kd.int .i64) w A1 l1.length l1) (hc1 : l1.length ≤ c1) (h : zS.f k a0 l1 = some r) :
  Calls Tryz.prog 12 #[.int .i64 a0, .slice A1 l1.length c1] w fun e w' => e = .returned (.bool r) ∧ zl w w' := by
 have HR1 := Aside0.mk hr1
 have HC1 := Aside0.mk hc1
 clear hr1 hc1
 have H : (zS.l0 k a0 l1 0) = some r := h
 clear h
 have H' := Aside0.mk H
 clear H
 go_enter Tryz.func12, Tryz.ntmps12
 go_wp2
 repeat (go_quiet (fail); try go_wp2)
 go_loopg [5] k (fun kq v5 w' => ∃ (x5_1 : Int), v5 = .int .i64 x5_1 ∧ Aside0 (zS.l0 kq a0 l1 x5_1 = some r) ∧ Aside0 (kq ≤ k) ∧ zl w w')
 case atStart => exact ⟨(0), (sqD), H', ⟨Nat.le_refl _⟩, by repeat (first | exact zl.refl _ | apply zl.step)⟩
 case round =>
  clear H'
  try clear c1
  try clear p2
  obtain ⟨x5_1, rfl, HA, HK1, ⟨m1, rfl⟩⟩ := hrel
  cases gk with
  | zero => exact absurd HA.out (by simp [zS.l0])
  | succ k1 =>
   have H := HA.out
   clear HA
   simp only [zS.l0] at H
   by_cases c3 : x5_1 < (l1.length : Int)
   ·rw [if_pos c3] at H
    have c3b0 : decide (x5_1 < (l1.length : Int)) = true := decide_eq_true c3
    clear c3
    by_cases c4 : 0 ≤ x5_1
    ·rw [if_pos c4] at H
     have c4b0 : decide (0 ≤ x5_1) = true := decide_eq_true c4
     clear c4
     replace H := Option.bind_eq_some_iff.mp H
     obtain ⟨t104, A50, H⟩ := H
     replace H : (if t104 = true then (if x5_1 > 0 then (if 0 ≤ (wrap64 (x5_1 - 1)) then (if (wrap64 (x5_1 - 1)) < (l1.length : Int) then (if (rd l1 (wrap64 (x5_1 - 1))) ≥ (rd l1 x5_1) then (some false) else (zS.l0 k1 a0 l1 (wrap64 (x5_1 + 1)))) else (none)) else (none)) else (zS.l0 k1 a0 l1 (wrap64 (x5_1 + 1)))) else (some false)) = some r := H
     have A5 := Aside0.mk A50
     clear A50
     by_cases c6 : t104 = true
     ·subst c6
      have H1 : (if x5_1 > 0 then (if 0 ≤ (wrap64 (x5_1 - 1)) then (if (wrap64 (x5_1 - 1)) < (l1.length : Int) then (if (rd l1 (wrap64 (x5_1 - 1))) ≥ (rd l1 x5_1) then (some false) else (zS.l0 k1 a0 l1 (wrap64 (x5_1 + 1)))) else (none)) else (none)) else (zS.l0 k1 a0 l1 (wrap64 (x5_1 + 1)))) = some r := by rw [if_pos rfl] at H; exact H
      clear H
      have H := H1
      clear H1
      by_cases c7 : x5_1 > 0
      ·rw [if_pos c7] at H
       have c7b0 : decide (0 < x5_1) = true := decide_eq_true c7
       clear c7
       obtain ⟨ji8, hji8⟩ : ∃ j_ : Int, (wrap64 (x5_1 - 1)) = j_ := ⟨_, rfl⟩
       replace H : (if 0 ≤ (ji8) then (if (ji8) < (l1.length : Int) then (if (rd l1 (ji8)) ≥ (rd l1 x5_1) then (some false) else (zS.l0 k1 a0 l1 (wrap64 (x5_1 + 1)))) else (none)) else (none)) = some r := by first | (rw [hji8] at H; exact H) | (simp only [hji8] at H ⊢; exact H)
       (try rw [hji8] at A5)
       have hji8w : (IntKind.i64.wrap (x5_1 - 1)) = ji8 := (zi _).trans hji8
       by_cases c9 : 0 ≤ (ji8)
       ·rw [if_pos c9] at H
        have c9b0 : decide (0 ≤ (ji8)) = true := decide_eq_true c9
        clear c9
        by_cases c10 : (ji8) < (l1.length : Int)
        ·rw [if_pos c10] at H
         have c10b0 : decide ((ji8) < (l1.length : Int)) = true := decide_eq_true c10
         clear c10
         by_cases c11 : (rd l1 (ji8)) ≥ (rd l1 x5_1)
         ·rw [if_pos c11] at H
          have c11b0 : decide ((rd l1 x5_1) ≤ (rd l1 (ji8))) = true := decide_eq_true c11
          clear c11
          obtain rfl := Option.some.inj H
          have p103 : 0 ≤ (x5_1 : Int) := of_decide_eq_true sqA
          have q103 : x5_1 < (l1.length : Int) := of_decide_eq_true sqA
          obtain ⟨ad103, e103, hx103_0⟩ := Kd.zT HR1.out x5_1 p103 q103
          cases e103
          replace p103 := eq_true p103
          replace q103 := eq_true q103
          go_wp2_with (first | (go_at_call 26; (try simp only [zi, zj]); (with_reducible refine (qL.calls a0 (rd l1 x5_1) true _ A5.out).mono ?_); rintro e w' ⟨rfl, ⟨nd, rfl⟩⟩; (try first | exact ⟨rfl, _, World.drewN_drewN _ _ _⟩ | exact ⟨rfl, _, Eq.trans (World.drewN_drewN _ _ _) (congrArg (World.drewN _) (Nat.add_assoc _ _ _))⟩); have p105 : 0 ≤ ((ji8) : Int) := of_decide_eq_true sqA; have q105 : (ji8) < (l1.length : Int) := of_decide_eq_true sqA; obtain ⟨ad105, e105, hx105_0⟩ := Kd.zT HR1.out (ji8) p105 q105; obtain rfl : ad103 = ad105 := (by injection e105); replace p105 := eq_true p105; replace q105 := eq_true q105; have p106 : 0 ≤ (x5_1 : Int) := of_decide_eq_true sqA; have q106 : x5_1 < (l1.length : Int) := of_decide_eq_true sqA; obtain ⟨ad106, e106, hx106_0⟩ := Kd.zT HR1.out x5_1 p106 q106; obtain rfl : ad103 = ad106 := (by injection e106); replace p106 := eq_true p106; replace q106 := eq_true q106))
          repeat (go_quiet (first | (go_at_call 26; (try simp only [zi, zj]); (with_reducible refine (qL.calls a0 (rd l1 x5_1) true _ A5.out).mono ?_); rintro e w' ⟨rfl, ⟨nd, rfl⟩⟩; (try first | exact ⟨rfl, _, World.drewN_drewN _ _ _⟩ | exact ⟨rfl, _, Eq.trans (World.drewN_drewN _ _ _) (congrArg (World.drewN _) (Nat.add_assoc _ _ _))⟩); have p105 : 0 ≤ ((ji8) : Int) := of_decide_eq_true sqA; have q105 : (ji8) < (l1.length : Int) := of_decide_eq_true sqA; obtain ⟨ad105, e105, hx105_0⟩ := Kd.zT HR1.out (ji8) p105 q105; obtain rfl : ad103 = ad105 := (by injection e105); replace p105 := eq_true p105; replace q105 := eq_true q105; have p106 : 0 ≤ (x5_1 : Int) := of_decide_eq_true sqA; have q106 : x5_1 < (l1.length : Int) := of_decide_eq_true sqA; obtain ⟨ad106, e106, hx106_0⟩ := Kd.zT HR1.out x5_1 p106 q106; obtain rfl : ad103 = ad106 := (by injection e106); replace p106 := eq_true p106; replace q106 := eq_true q106)); try go_wp2_with (first | (go_at_call 26; (try simp only [zi, zj]); (with_reducible refine (qL.calls a0 (rd l1 x5_1) true _ A5.out).mono ?_); rintro e w' ⟨rfl, ⟨nd, rfl⟩⟩; (try first | exact ⟨rfl, _, World.drewN_drewN _ _ _⟩ | exact ⟨rfl, _, Eq.trans (World.drewN_drewN _ _ _) (congrArg (World.drewN _) (Nat.add_assoc _ _ _))⟩); have p105 : 0 ≤ ((ji8) : Int) := of_decide_eq_true sqA; have q105 : (ji8) < (l1.length : Int) := of_decide_eq_true sqA; obtain ⟨ad105, e105, hx105_0⟩ := Kd.zT HR1.out (ji8) p105 q105; obtain rfl : ad103 = ad105 := (by injection e105); replace p105 := eq_true p105; replace q105 := eq_true q105; have p106 : 0 ≤ (x5_1 : Int) := of_decide_eq_true sqA; have q106 : x5_1 < (l1.length : Int) := of_decide_eq_true sqA; obtain ⟨ad106, e106, hx106_0⟩ := Kd.zT HR1.out x5_1 p106 q106; obtain rfl : ad103 = ad106 := (by injection e106); replace p106 := eq_true p106; replace q106 := eq_true q106)))
          go_ret
          exact ⟨by first | rfl | (simp; done) | (simp only [← hji8] <;> (first | rfl | simp)) | (simp [*]; done), by repeat (first | exact zl.refl _ | apply zl.step)⟩
         ·rw [if_neg c11] at H
          have c11b0 : decide ((rd l1 x5_1) ≤ (rd l1 (ji8))) = false := decide_eq_false c11
          clear c11
          have H' := Aside0.mk H
          clear H
          have p103 : 0 ≤ (x5_1 : Int) := of_decide_eq_true sqA
          have q103 : x5_1 < (l1.length : Int) := of_decide_eq_true sqA
          obtain ⟨ad103, e103, hx103_0⟩ := Kd.zT HR1.out x5_1 p103 q103
          cases e103
          replace p103 := eq_true p103
          replace q103 := eq_true q103
          go_wp2_with (first | (go_at_call 26; (try simp only [zi, zj]); (with_reducible refine (qL.calls a0 (rd l1 x5_1) true _ A5.out).mono ?_); rintro e w' ⟨rfl, ⟨nd, rfl⟩⟩; (try first | exact ⟨rfl, _, World.drewN_drewN _ _ _⟩ | exact ⟨rfl, _, Eq.trans (World.drewN_drewN _ _ _) (congrArg (World.drewN _) (Nat.add_assoc _ _ _))⟩); have p105 : 0 ≤ ((ji8) : Int) := of_decide_eq_true sqA; have q105 : (ji8) < (l1.length : Int) := of_decide_eq_true sqA; obtain ⟨ad105, e105, hx105_0⟩ := Kd.zT HR1.out (ji8) p105 q105; obtain rfl : ad103 = ad105 := (by injection e105); replace p105 := eq_true p105; replace q105 := eq_true q105; have p106 : 0 ≤ (x5_1 : Int) := of_decide_eq_true sqA; have q106 : x5_1 < (l1.length : Int) := of_decide_eq_true sqA; obtain ⟨ad106, e106, hx106_0⟩ := Kd.zT HR1.out x5_1 p106 q106; obtain rfl : ad103 = ad106 := (by injection e106); replace p106 := eq_true p106; replace q106 := eq_true q106))
          repeat (go_quiet (first | (go_at_call 26; (try simp only [zi, zj]); (with_reducible refine (qL.calls a0 (rd l1 x5_1) true _ A5.out).mono ?_); rintro e w' ⟨rfl, ⟨nd, rfl⟩⟩; (try first | exact ⟨rfl, _, World.drewN_drewN _ _ _⟩ | exact ⟨rfl, _, Eq.trans (World.drewN_drewN _ _ _) (congrArg (World.drewN _) (Nat.add_assoc _ _ _))⟩); have p105 : 0 ≤ ((ji8) : Int) := of_decide_eq_true sqA; have q105 : (ji8) < (l1.length : Int) := of_decide_eq_true sqA; obtain ⟨ad105, e105, hx105_0⟩ := Kd.zT HR1.out (ji8) p105 q105; obtain rfl : ad103 = ad105 := (by injection e105); replace p105 := eq_true p105; replace q105 := eq_true q105; have p106 : 0 ≤ (x5_1 : Int) := of_decide_eq_true sqA; have q106 : x5_1 < (l1.length : Int) := of_decide_eq_true sqA; obtain ⟨ad106, e106, hx106_0⟩ := Kd.zT HR1.out x5_1 p106 q106; obtain rfl : ad103 = ad106 := (by injection e106); replace p106 := eq_true p106; replace q106 := eq_true q106)); try go_wp2_with (first | (go_at_call 26; (try simp only [zi, zj]); (with_reducible refine (qL.calls a0 (rd l1 x5_1) true _ A5.out).mono ?_); rintro e w' ⟨rfl, ⟨nd, rfl⟩⟩; (try first | exact ⟨rfl, _, World.drewN_drewN _ _ _⟩ | exact ⟨rfl, _, Eq.trans (World.drewN_drewN _ _ _) (congrArg (World.drewN _) (Nat.add_assoc _ _ _))⟩); have p105 : 0 ≤ ((ji8) : Int) := of_decide_eq_true sqA; have q105 : (ji8) < (l1.length : Int) := of_decide_eq_true sqA; obtain ⟨ad105, e105, hx105_0⟩ := Kd.zT HR1.out (ji8) p105 q105; obtain rfl : ad103 = ad105 := (by injection e105); replace p105 := eq_true p105; replace q105 := eq_true q105; have p106 : 0 ≤ (x5_1 : Int) := of_decide_eq_true sqA; have q106 : x5_1 < (l1.length : Int) := of_decide_eq_true sqA; obtain ⟨ad106, e106, hx106_0⟩ := Kd.zT HR1.out x5_1 p106 q106; obtain rfl : ad103 = ad106 := (by injection e106); replace p106 := eq_true p106; replace q106 := eq_true q106)))
          go_roundg k1
          case measure => have := HK1.out; omega
          case rel => exact ⟨(wrap64 (x5_1 + 1)), (sqD), H', ⟨by have := HK1.out; omega⟩, by repeat (first | exact zl.refl _ | apply zl.step)⟩
        ·rw [if_neg c10] at H
         exact absurd H (by simp)
       ·rw [if_neg c9] at H
        exact absurd H (by simp)
      ·rw [if_neg c7] at H
       have c7b0 : decide (0 < x5_1) = false := decide_eq_false c7
       clear c7
       have H' := Aside0.mk H
       clear H
       have p103 : 0 ≤ (x5_1 : Int) := of_decide_eq_true sqA
       have q103 : x5_1 < (l1.length : Int) := of_decide_eq_true sqA
       obtain ⟨ad103, e103, hx103_0⟩ := Kd.zT HR1.out x5_1 p103 q103
       cases e103
       replace p103 := eq_true p103
       replace q103 := eq_true q103
       go_wp2_with (first | (go_at_call 26; (try simp only [zi, zj]); (with_reducible refine (qL.calls a0 (rd l1 x5_1) true _ A5.out).mono ?_); rintro e w' ⟨rfl, ⟨nd, rfl⟩⟩; (try first | exact ⟨rfl, _, World.drewN_drewN _ _ _⟩ | exact ⟨rfl, _, Eq.trans (World.drewN_drewN _ _ _) (congrArg (World.drewN _) (Nat.add_assoc _ _ _))⟩)))
       repeat (go_quiet (first | (go_at_call 26; (try simp only [zi, zj]); (with_reducible refine (qL.calls a0 (rd l1 x5_1) true _ A5.out).mono ?_); rintro e w' ⟨rfl, ⟨nd, rfl⟩⟩; (try first | exact ⟨rfl, _, World.drewN_drewN _ _ _⟩ | exact ⟨rfl, _, Eq.trans (World.drewN_drewN _ _ _) (congrArg (World.drewN _) (Nat.add_assoc _ _ _))⟩))); try go_wp2_with (first | (go_at_call 26; (try simp only [zi, zj]); (with_reducible refine (qL.calls a0 (rd l1 x5_1) true _ A5.out).mono ?_); rintro e w' ⟨rfl, ⟨nd, rfl⟩⟩; (try first | exact ⟨rfl, _, World.drewN_drewN _ _ _⟩ | exact ⟨rfl, _, Eq.trans (World.drewN_drewN _ _ _) (congrArg (World.drewN _) (Nat.add_assoc _ _ _))⟩))))
       go_roundg k1
       case measure => have := HK1.out; omega
       case rel => exact ⟨(wrap64 (x5_1 + 1)), (sqD), H', ⟨by have := HK1.out; omega⟩, by repeat (first | exact zl.refl _ | apply zl.step)⟩
     ·replace c6 := Bool.eq_false_iff.mpr c6
      subst c6
      have H1 : (some false) = some r := by rw [if_neg (show ¬ (false = true) by decide)] at H; exact H
      clear H
      have H := H1
      clear H1
      obtain rfl := Option.some.inj H
      have p103 : 0 ≤ (x5_1 : Int) := of_decide_eq_true sqA
      have q103 : x5_1 < (l1.length : Int) := of_decide_eq_true sqA
      obtain ⟨ad103, e103, hx103_0⟩ := Kd.zT HR1.out x5_1 p103 q103
      cases e103
      replace p103 := eq_true p103
      replace q103 := eq_true q103
      go_wp2_with (first | (go_at_call 26; (try simp only [zi, zj]); (with_reducible refine (qL.calls a0 (rd l1 x5_1) false _ A5.out).mono ?_); rintro e w' ⟨rfl, ⟨nd, rfl⟩⟩; (try first | exact ⟨rfl, _, World.drewN_drewN _ _ _⟩ | exact ⟨rfl, _, Eq.trans (World.drewN_drewN _ _ _) (congrArg (World.drewN _) (Nat.add_assoc _ _ _))⟩)))
      repeat (go_quiet (first | (go_at_call 26; (try simp only [zi, zj]); (with_reducible refine (qL.calls a0 (rd l1 x5_1) false _ A5.out).mono ?_); rintro e w' ⟨rfl, ⟨nd, rfl⟩⟩; (try first | exact ⟨rfl, _, World.drewN_drewN _ _ _⟩ | exact ⟨rfl, _, Eq.trans (World.drewN_drewN _ _ _) (congrArg (World.drewN _) (Nat.add_assoc _ _ _))⟩))); try go_wp2_with (first | (go_at_call 26; (try simp only [zi, zj]); (with_reducible refine (qL.calls a0 (rd l1 x5_1) false _ A5.out).mono ?_); rintro e w' ⟨rfl, ⟨nd, rfl⟩⟩; (try first | exact ⟨rfl, _, World.drewN_drewN _ _ _⟩ | exact ⟨rfl, _, Eq.trans (World.drewN_drewN _ _ _) (congrArg (World.drewN _) (Nat.add_assoc _ _ _))⟩))))
      go_ret
      exact ⟨sqD, by repeat (first | exact zl.refl _ | apply zl.step)⟩
    ·rw [if_neg c4] at H
     exact absurd H (by simp)
   ·rw [if_neg c3] at H
    have c3b0 : decide (x5_1 < (l1.length : Int)) = false := decide_eq_false c3
    clear c3
    replace H := Option.bind_eq_some_iff.mp H
    obtain ⟨t107, A120, H⟩ := H
    replace H : (some t107) = some r := H
    have A12 := Aside0.mk A120
    clear A120
    obtain rfl := Option.some.inj H
    go_wp2_with (first | (go_at_call 27; (try simp only [zi, zj]); (with_reducible refine (qV.calls a0 0 8 t107 _ A12.out).mono ?_); rintro e w' ⟨rfl, ⟨nd, rfl⟩⟩; (try first | exact ⟨rfl, _, World.drewN_drewN _ _ _⟩ | exact ⟨rfl, _, Eq.trans (World.drewN_drewN _ _ _) (congrArg (World.drewN _) (Nat.add_assoc _ _ _))⟩)))
    repeat (go_quiet (first | (go_at_call 27; (try simp only [zi, zj]); (with_reducible refine (qV.calls a0 0 8 t107 _ A12.out).mono ?_); rintro e w' ⟨rfl, ⟨nd, rfl⟩⟩; (try first | exact ⟨rfl, _, World.drewN_drewN _ _ _⟩ | exact ⟨rfl, _, Eq.trans (World.drewN_drewN _ _ _) (congrArg (World.drewN _) (Nat.add_assoc _ _ _))⟩))); try go_wp2_with (first | (go_at_call 27; (try simp only [zi, zj]); (with_reducible refine (qV.calls a0 0 8 t107 _ A12.out).mono ?_); rintro e w' ⟨rfl, ⟨nd, rfl⟩⟩; (try first | exact ⟨rfl, _, World.drewN_drewN _ _ _⟩ | exact ⟨rfl, _, Eq.trans (World.drewN_drewN _ _ _) (congrArg (World.drewN _) (Nat.add_assoc _ _ _))⟩))))
    go_ret
    exact ⟨sqD, by repeat (first | exact zl.refl _ | apply zl.step)⟩

def qd.l0 : Nat → List Int → Int → Int → Option (Bool)
 | 0, _, _, _ => none
 | k + 1, x0, x1, x5 => if x5 < (x0.length : Int) then (if 0 ≤ x5 then (if (rd x0 x5) = x1 then (some true) else (qd.l0 k x0 x1 (wrap64 (x5 + 1)))) else (none)) else (some false)
def qd.f (k : Nat) (l0 : List Int) (a1 : Int) : Option (Bool) := qd.l0 k l0 a1 0
theorem qd.calls (k : Nat) (A0 : Option Addr) (c0 : Nat) (l0 : List Int) (a1 : Int) (r : Bool) (w : World) (hr0 : Kd.C (Kd.int .i64) w A0 l0.length l0) (hc0 : l0.length ≤ c0) (h : qd.f k l0 a1 = some r) :
  Calls Tryz.prog 13 #[.slice A0 l0.length c0, .int .i64 a1] w fun e w' => e = .returned (.bool r) ∧ zl w w' := by
 have HR0 := Aside0.mk hr0
 have HC0 := Aside0.mk hc0
 clear hr0 hc0
 have H : (qd.l0 k l0 a1 0) = some r := h
 clear h
 have H' := Aside0.mk H
 clear H
 go_enter Tryz.func13, Tryz.ntmps13
 go_wp2
 go_loopg [5] k (fun kq v5 w' => ∃ (x5_1 : Int), v5 = .int .i64 x5_1 ∧ Aside0 (qd.l0 kq l0 a1 x5_1 = some r) ∧ Aside0 (kq ≤ k) ∧ zl w w')
 case atStart => exact ⟨(0), (sqD), H', ⟨Nat.le_refl _⟩, by repeat (first | exact zl.refl _ | apply zl.step)⟩
 case round =>
  clear H'
  try clear c1
  try clear p2
  obtain ⟨x5_1, rfl, HA, HK1, ⟨m1, rfl⟩⟩ := hrel
  cases gk with
  | zero => exact absurd HA.out (by simp [qd.l0])
  | succ k1 =>
   have H := HA.out
   clear HA
   simp only [qd.l0] at H
   by_cases c3 : x5_1 < (l0.length : Int)
   ·rw [if_pos c3] at H
    have c3b0 : decide (x5_1 < (l0.length : Int)) = true := decide_eq_true c3
    clear c3
    by_cases c4 : 0 ≤ x5_1
    ·rw [if_pos c4] at H
     have c4b0 : decide (0 ≤ x5_1) = true := decide_eq_true c4
     clear c4
     by_cases c5 : (rd l0 x5_1) = a1
     ·rw [if_pos c5] at H
      have c5b0 : ((rd l0 x5_1) == a1) = true := beq_iff_eq.mpr c5
      have c5b1 : ((rd l0 x5_1) != a1) = false := bne_eq_false_iff_eq.mpr c5
      clear c5
      obtain rfl := Option.some.inj H
      have p108 : 0 ≤ (x5_1 : Int) := of_decide_eq_true sqA
      have q108 : x5_1 < (l0.length : Int) := of_decide_eq_true sqA
      obtain ⟨ad108, e108, hx108_0⟩ := Kd.zT HR0.out x5_1 p108 q108
      cases e108
      replace p108 := eq_true p108
      replace q108 := eq_true q108
      go_wp2
      go_ret
      exact ⟨sqD, by repeat (first | exact zl.refl _ | apply zl.step)⟩
     ·rw [if_neg c5] at H
      have c5b0 : ((rd l0 x5_1) == a1) = false := beq_eq_false_iff_ne.mpr c5
      have c5b1 : ((rd l0 x5_1) != a1) = true := bne_iff_ne.mpr c5
      have H' := Aside0.mk H
      clear H
      have p108 : 0 ≤ (x5_1 : Int) := of_decide_eq_true sqA
      have q108 : x5_1 < (l0.length : Int) := of_decide_eq_true sqA
      obtain ⟨ad108, e108, hx108_0⟩ := Kd.zT HR0.out x5_1 p108 q108
      cases e108
      replace p108 := eq_true p108
      replace q108 := eq_true q108
      go_wp2
      go_roundg k1
      case measure => have := HK1.out; omega
      case rel => exact ⟨(wrap64 (x5_1 + 1)), (sqD), H', ⟨by have := HK1.out; omega⟩, by repeat (first | exact zl.refl _ | apply zl.step)⟩
    ·rw [if_neg c4] at H
     exact absurd H (by simp)
   ·rw [if_neg c3] at H
    have c3b0 : decide (x5_1 < (l0.length : Int)) = false := decide_eq_false c3
    clear c3
    obtain rfl := Option.some.inj H
    go_wp2
    go_ret
    exact ⟨sqD, by repeat (first | exact zl.refl _ | apply zl.step)⟩

def qj.f (a0 : Int) : Option (Int) := (qV.f a0 0 8).bind fun t109 => (if t109 = true then (if 0 ≤ (IntKind.u64.wrap (a0)) then (some (wrap64 ((shl .i64 1 (IntKind.u64.wrap (a0))) - 1))) else (none)) else (some 0))
theorem qj.calls (a0 : Int) (r : Int) (w : World) (h : qj.f a0 = some r) :
  Calls Tryz.prog 14 #[.int .i64 a0] w fun e w' => e = .returned (.int .i64 r) ∧ zl w w' := by
 have H : ((qV.f a0 0 8).bind fun t109 => (if t109 = true then (if 0 ≤ (IntKind.u64.wrap (a0)) then (some (wrap64 ((shl .i64 1 (IntKind.u64.wrap (a0))) - 1))) else (none)) else (some 0))) = some r := h
 clear h
 replace H := Option.bind_eq_some_iff.mp H
 obtain ⟨t109, A20, H⟩ := H
 replace H : (if t109 = true then (if 0 ≤ (IntKind.u64.wrap (a0)) then (some (wrap64 ((shl .i64 1 (IntKind.u64.wrap (a0))) - 1))) else (none)) else (some 0)) = some r := H
 have A2 := Aside0.mk A20
 clear A20
 by_cases c3 : t109 = true
 ·subst c3
  have H1 : (if 0 ≤ (IntKind.u64.wrap (a0)) then (some (wrap64 ((shl .i64 1 (IntKind.u64.wrap (a0))) - 1))) else (none)) = some r := by rw [if_pos rfl] at H; exact H
  clear H
  have H := H1
  clear H1
  obtain ⟨ji4, hji4⟩ : ∃ j_ : Int, (IntKind.u64.wrap (a0)) = j_ := ⟨_, rfl⟩
  replace H : (if 0 ≤ (ji4) then (some (wrap64 ((shl .i64 1 (ji4)) - 1))) else (none)) = some r := by first | (rw [hji4] at H; exact H) | (simp only [hji4] at H ⊢; exact H)
  (try rw [hji4] at A2)
  by_cases c5 : 0 ≤ (ji4)
  ·rw [if_pos c5] at H
   have c5b0 := eq_true c5
   have c5b1 : decide (0 ≤ (ji4)) = true := decide_eq_true c5
   clear c5
   obtain ⟨ji6, hji6⟩ : ∃ j_ : Int, (shl .i64 1 (ji4)) = j_ := ⟨_, rfl⟩
   replace H : (some (wrap64 ((ji6) - 1))) = some r := by first | (rw [hji6] at H; exact H) | (simp only [hji6] at H ⊢; exact H)
   (try rw [hji6] at A2)
   have hji6_ : (IntKind.i64.wrap (1 * 2 ^ min (ji4).toNat 64)) = ji6 := hji6
   have hji6z : (ji4) ≤ 64 → (IntKind.i64.wrap (1 * 2 ^ (ji4).toNat)) = ji6 := vB hji6
   have hji6u : (IntKind.i64.wrap (2 ^ min (ji4).toNat 64)) = ji6 := by have h_ := hji6_; rw [Int.one_mul] at h_; exact h_
   have hji6v : (ji4) ≤ 64 → (IntKind.i64.wrap (2 ^ (ji4).toNat)) = ji6 := fun hle_ => by have h_ := hji6z hle_; rw [Int.one_mul] at h_; exact h_
   have hji6y : (wrap64 (1 * 2 ^ min (ji4).toNat 64)) = ji6 := (zi _).symm.trans hji6_
   have hji6x : (ji4) ≤ 64 → (wrap64 (1 * 2 ^ (ji4).toNat)) = ji6 := fun h_ => (zi _).symm.trans (hji6z h_)
   obtain rfl := Option.some.inj H
   go_enter Tryz.func14, Tryz.ntmps14
   go_wp2_with (first | ((with_reducible refine ze (f := 27) rfl ?_); refine zv (some 4) rfl rfl Tryz.func27 (by kernel_rfl) rfl #[.int .i64 a0, .int .i64 0, .int .i64 8] rfl sqM ?_; (with_reducible refine (qV.calls a0 0 8 true _ A2.out).mono ?_); rintro e w' ⟨rfl, ⟨nd, rfl⟩⟩; refine ⟨_, rfl, ?_⟩))
   go_ret
   exact ⟨by first | rfl | (simp; done) | (simp only [← hji4, ← hji6] <;> (first | rfl | simp)) | (simp [*]; done), by repeat (first | exact zl.refl _ | apply zl.step)⟩
  ·rw [if_neg c5] at H
   exact absurd H (by simp)
 ·replace c3 := Bool.eq_false_iff.mpr c3
  subst c3
  have H1 : (some 0) = some r := by rw [if_neg (show ¬ (false = true) by decide)] at H; exact H
  clear H
  have H := H1
  clear H1
  obtain rfl := Option.some.inj H
  go_enter Tryz.func14, Tryz.ntmps14
  go_wp2_with (first | ((with_reducible refine ze (f := 27) rfl ?_); refine zv (some 4) rfl rfl Tryz.func27 (by kernel_rfl) rfl #[.int .i64 a0, .int .i64 0, .int .i64 8] rfl sqM ?_; (with_reducible refine (qV.calls a0 0 8 false _ A2.out).mono ?_); rintro e w' ⟨rfl, ⟨nd, rfl⟩⟩; refine ⟨_, rfl, ?_⟩))
  go_ret
  exact ⟨sqD, by repeat (first | exact zl.refl _ | apply zl.step)⟩

def qe.l0 : Nat → List Int → List Int → Int → Option (Bool)
 | 0, _, _, _ => none
 | k + 1, x0, x1, x5 => if x5 < (x0.length : Int) then (if 0 ≤ x5 then (if x5 < (x1.length : Int) then (if (rd x0 x5) = (rd x1 x5) then (qe.l0 k x0 x1 (wrap64 (x5 + 1))) else (some false)) else (none)) else (none)) else (some true)
def qe.f (k : Nat) (l0 : List Int) (l1 : List Int) : Option (Bool) := if (l0.length : Int) = (l1.length : Int) then (qe.l0 k l0 l1 0) else (some false)
theorem qe.calls (k : Nat) (A0 : Option Addr) (c0 : Nat) (l0 : List Int) (A1 : Option Addr) (c1 : Nat) (l1 : List Int) (r : Bool) (w : World) (hr0 : Kd.C (Kd.int .i64) w A0 l0.length l0) (hc0 : l0.length ≤ c0) (hr1 : Kd.C (Kd.int .i64) w A1 l1.length l1) (hc1 : l1.length ≤ c1) (h : qe.f k l0 l1 = some r) :
  Calls Tryz.prog 17 #[.slice A0 l0.length c0, .slice A1 l1.length c1] w fun e w' => e = .returned (.bool r) ∧ zl w w' := by
 have HR0 := Aside0.mk hr0
 have HC0 := Aside0.mk hc0
 clear hr0 hc0
 have HR1 := Aside0.mk hr1
 have HC1 := Aside0.mk hc1
 clear hr1 hc1
 have H : (if (l0.length : Int) = (l1.length : Int) then (qe.l0 k l0 l1 0) else (some false)) = some r := h
 clear h
 by_cases c3 : (l0.length : Int) = (l1.length : Int)
 ·rw [if_pos c3] at H
  have c3b0 : ((l0.length : Int) == (l1.length : Int)) = true := beq_iff_eq.mpr c3
  have c3b1 : ((l0.length : Int) != (l1.length : Int)) = false := bne_eq_false_iff_eq.mpr c3
  have c3b2 : (l0.length == l1.length) = true := by first | simpa using c3 | (simp at c3 ⊢; omega)
  clear c3
  have H' := Aside0.mk H
  clear H
  go_enter Tryz.func17, Tryz.ntmps17
  go_wp2
  repeat (go_quiet (fail); try go_wp2)
  go_loopg [5] k (fun kq v5 w' => ∃ (x5_1 : Int), v5 = .int .i64 x5_1 ∧ Aside0 (qe.l0 kq l0 l1 x5_1 = some r) ∧ Aside0 (kq ≤ k) ∧ zl w w')
  case atStart => exact ⟨(0), (sqD), H', ⟨Nat.le_refl _⟩, by repeat (first | exact zl.refl _ | apply zl.step)⟩
  case round =>
   clear H'
   try clear c1
   try clear p2
   try clear c3
   try clear c3b0
   try clear c3b1
   try clear c3b2
   obtain ⟨x5_1, rfl, HA, HK1, ⟨m1, rfl⟩⟩ := hrel
   cases gk with
   | zero => exact absurd HA.out (by simp [qe.l0])
   | succ k1 =>
    have H := HA.out
    clear HA
    simp only [qe.l0] at H
    by_cases c4 : x5_1 < (l0.length : Int)
    ·rw [if_pos c4] at H
     have c4b0 : decide (x5_1 < (l0.length : Int)) = true := decide_eq_true c4
     clear c4
     by_cases c5 : 0 ≤ x5_1
     ·rw [if_pos c5] at H
      have c5b0 : decide (0 ≤ x5_1) = true := decide_eq_true c5
      clear c5
      by_cases c6 : x5_1 < (l1.length : Int)
      ·rw [if_pos c6] at H
       have c6b0 : decide (x5_1 < (l1.length : Int)) = true := decide_eq_true c6
       clear c6
       by_cases c7 : (rd l0 x5_1) = (rd l1 x5_1)
       ·rw [if_pos c7] at H
        have c7b0 : ((rd l0 x5_1) == (rd l1 x5_1)) = true := beq_iff_eq.mpr c7
        have c7b1 : ((rd l0 x5_1) != (rd l1 x5_1)) = false := bne_eq_false_iff_eq.mpr c7
        clear c7
        have H' := Aside0.mk H
        clear H
        have p110 : 0 ≤ (x5_1 : Int) := of_decide_eq_true sqA
        have q110 : x5_1 < (l0.length : Int) := of_decide_eq_true sqA
        obtain ⟨ad110, e110, hx110_0⟩ := Kd.zT HR0.out x5_1 p110 q110
        cases e110
        replace p110 := eq_true p110
        replace q110 := eq_true q110
        have p111 : 0 ≤ (x5_1 : Int) := of_decide_eq_true sqA
        have q111 : x5_1 < (l1.length : Int) := of_decide_eq_true sqA
        obtain ⟨ad111, e111, hx111_0⟩ := Kd.zT HR1.out x5_1 p111 q111
        cases e111
        replace p111 := eq_true p111
        replace q111 := eq_true q111
        go_wp2
        repeat (go_quiet (fail); try go_wp2)
        go_roundg k1
        case measure => have := HK1.out; omega
        case rel => exact ⟨(wrap64 (x5_1 + 1)), (sqD), H', ⟨by have := HK1.out; omega⟩, by repeat (first | exact zl.refl _ | apply zl.step)⟩
       ·rw [if_neg c7] at H
        have c7b0 : ((rd l0 x5_1) == (rd l1 x5_1)) = false := beq_eq_false_iff_ne.mpr c7
        have c7b1 : ((rd l0 x5_1) != (rd l1 x5_1)) = true := bne_iff_ne.mpr c7
        obtain rfl := Option.some.inj H
        have p110 : 0 ≤ (x5_1 : Int) := of_decide_eq_true sqA
        have q110 : x5_1 < (l0.length : Int) := of_decide_eq_true sqA
        obtain ⟨ad110, e110, hx110_0⟩ := Kd.zT HR0.out x5_1 p110 q110
        cases e110
        replace p110 := eq_true p110
        replace q110 := eq_true q110
        have p111 : 0 ≤ (x5_1 : Int) := of_decide_eq_true sqA
        have q111 : x5_1 < (l1.length : Int) := of_decide_eq_true sqA
        obtain ⟨ad111, e111, hx111_0⟩ := Kd.zT HR1.out x5_1 p111 q111
        cases e111
        replace p111 := eq_true p111
        replace q111 := eq_true q111
        go_wp2
        repeat (go_quiet (fail); try go_wp2)
        go_ret
        exact ⟨sqD, by repeat (first | exact zl.refl _ | apply zl.step)⟩
      ·rw [if_neg c6] at H
       exact absurd H (by simp)
     ·rw [if_neg c5] at H
      exact absurd H (by simp)
    ·rw [if_neg c4] at H
     have c4b0 : decide (x5_1 < (l0.length : Int)) = false := decide_eq_false c4
     clear c4
     obtain rfl := Option.some.inj H
     go_wp2
     repeat (go_quiet (fail); try go_wp2)
     go_ret
     exact ⟨sqD, by repeat (first | exact zl.refl _ | apply zl.step)⟩
 ·rw [if_neg c3] at H
  have c3b0 : ((l0.length : Int) == (l1.length : Int)) = false := beq_eq_false_iff_ne.mpr c3
  have c3b1 : ((l0.length : Int) != (l1.length : Int)) = true := bne_iff_ne.mpr c3
  have c3b2 : (l0.length == l1.length) = false := by first | simpa using c3 | (simp at c3 ⊢; omega)
  obtain rfl := Option.some.inj H
  go_enter Tryz.func17, Tryz.ntmps17
  go_wp2
  repeat (go_quiet (fail); try go_wp2)
  go_ret
  exact ⟨sqD, by repeat (first | exact zl.refl _ | apply zl.step)⟩

def qP.l0 : Nat → List Int → Int → Int → Option (Bool)
 | 0, _, _, _ => none
 | k + 1, x0, x1, x5 => if x5 < (x0.length : Int) then (if 0 ≤ x5 then (if (Go.bits .and .i64 (rd x0 x5) x1) = x1 then (some true) else (qP.l0 k x0 x1 (wrap64 (x5 + 1)))) else (none)) else (some false)
def qP.f (k : Nat) (l0 : List Int) (a1 : Int) : Option (Bool) := qP.l0 k l0 a1 0
theorem qP.calls (k : Nat) (A0 : Option Addr) (c0 : Nat) (l0 : List Int) (a1 : Int) (r : Bool) (w : World) (hr0 : Kd.C (Kd.int .i64) w A0 l0.length l0) (hc0 : l0.length ≤ c0) (h : qP.f k l0 a1 = some r) :
  Calls Tryz.prog 28 #[.slice A0 l0.length c0, .int .i64 a1] w fun e w' => e = .returned (.bool r) ∧ zl w w' := by
 have HR0 := Aside0.mk hr0
 have HC0 := Aside0.mk hc0
 clear hr0 hc0
 have H : (qP.l0 k l0 a1 0) = some r := h
 clear h
 have H' := Aside0.mk H
 clear H
 go_enter Tryz.func28, Tryz.ntmps28
 go_wp2
 go_loopg [5] k (fun kq v5 w' => ∃ (x5_1 : Int), v5 = .int .i64 x5_1 ∧ Aside0 (qP.l0 kq l0 a1 x5_1 = some r) ∧ Aside0 (kq ≤ k) ∧ zl w w')
 case atStart => exact ⟨(0), (sqD), H', ⟨Nat.le_refl _⟩, by repeat (first | exact zl.refl _ | apply zl.step)⟩
 case round =>
  clear H'
  try clear c2
  try clear p2
  obtain ⟨x5_1, rfl, HA, HK1, ⟨m1, rfl⟩⟩ := hrel
  cases gk with
  | zero => exact absurd HA.out (by simp [qP.l0])
  | succ k1 =>
   have H := HA.out
   clear HA
   simp only [qP.l0] at H
   by_cases c3 : x5_1 < (l0.length : Int)
   ·rw [if_pos c3] at H
    have c3b0 : decide (x5_1 < (l0.length : Int)) = true := decide_eq_true c3
    clear c3
    by_cases c4 : 0 ≤ x5_1
    ·rw [if_pos c4] at H
     have c4b0 : decide (0 ≤ x5_1) = true := decide_eq_true c4
     clear c4
     by_cases c5 : (Go.bits .and .i64 (rd l0 x5_1) a1) = a1
     ·rw [if_pos c5] at H
      have c5b0 : ((Go.bits .and .i64 (rd l0 x5_1) a1) == a1) = true := beq_iff_eq.mpr c5
      have c5b1 : ((Go.bits .and .i64 (rd l0 x5_1) a1) != a1) = false := bne_eq_false_iff_eq.mpr c5
      clear c5
      obtain rfl := Option.some.inj H
      have p112 : 0 ≤ (x5_1 : Int) := of_decide_eq_true sqA
      have q112 : x5_1 < (l0.length : Int) := of_decide_eq_true sqA
      obtain ⟨ad112, e112, hx112_0⟩ := Kd.zT HR0.out x5_1 p112 q112
      cases e112
      replace p112 := eq_true p112
      replace q112 := eq_true q112
      go_wp2
      go_ret
      exact ⟨sqD, by repeat (first | exact zl.refl _ | apply zl.step)⟩
     ·rw [if_neg c5] at H
      have c5b0 : ((Go.bits .and .i64 (rd l0 x5_1) a1) == a1) = false := beq_eq_false_iff_ne.mpr c5
      have c5b1 : ((Go.bits .and .i64 (rd l0 x5_1) a1) != a1) = true := bne_iff_ne.mpr c5
      have H' := Aside0.mk H
      clear H
      have p112 : 0 ≤ (x5_1 : Int) := of_decide_eq_true sqA
      have q112 : x5_1 < (l0.length : Int) := of_decide_eq_true sqA
      obtain ⟨ad112, e112, hx112_0⟩ := Kd.zT HR0.out x5_1 p112 q112
      cases e112
      replace p112 := eq_true p112
      replace q112 := eq_true q112
      go_wp2
      go_roundg k1
      case measure => have := HK1.out; omega
      case rel => exact ⟨(wrap64 (x5_1 + 1)), (sqD), H', ⟨by have := HK1.out; omega⟩, by repeat (first | exact zl.refl _ | apply zl.step)⟩
    ·rw [if_neg c4] at H
     exact absurd H (by simp)
   ·rw [if_neg c3] at H
    have c3b0 : decide (x5_1 < (l0.length : Int)) = false := decide_eq_false c3
    clear c3
    obtain rfl := Option.some.inj H
    go_wp2
    go_ret
    exact ⟨sqD, by repeat (first | exact zl.refl _ | apply zl.step)⟩

def qa.l0 : Nat → Int → List Int → Int → Option (Bool)
 | 0, _, _, _ => none
 | k + 1, x0, x1, x5 => if x5 < (x1.length : Int) then (if 0 ≤ x5 then ((qL.f x0 (rd x1 x5)).bind fun t114 => (if t114 = true then (qa.l0 k x0 x1 (wrap64 (x5 + 1))) else (some false))) else (none)) else (some true)
def qa.f (k : Nat) (a0 : Int) (l1 : List Int) : Option (Bool) := qa.l0 k a0 l1 0
theorem qa.calls (k : Nat) (a0 : Int) (A1 : Option Addr) (c1 : Nat) (l1 : List Int) (r : Bool) (w : World) (hr1 : Kd.C (Kd.int .i64) w A1 l1.length l1) (hc1 : l1.length ≤ c1) (h : qa.f k a0 l1 = some r) :
  Calls Tryz.prog 32 #[.int .i64 a0, .slice A1 l1.length c1] w fun e w' => e = .returned (.bool r) ∧ zl w w' := by
 have HR1 := Aside0.mk hr1
 have HC1 := Aside0.mk hc1
 clear hr1 hc1
 have H : (qa.l0 k a0 l1 0) = some r := h
 clear h
 have H' := Aside0.mk H
 clear H
 go_enter Tryz.func32, Tryz.ntmps32
 go_wp2
 go_loopg [5] k (fun kq v5 w' => ∃ (x5_1 : Int), v5 = .int .i64 x5_1 ∧ Aside0 (qa.l0 kq a0 l1 x5_1 = some r) ∧ Aside0 (kq ≤ k) ∧ zl w w')
 case atStart => exact ⟨(0), (sqD), H', ⟨Nat.le_refl _⟩, by repeat (first | exact zl.refl _ | apply zl.step)⟩
 case round =>
  clear H'
  try clear c1
  try clear p2
  obtain ⟨x5_1, rfl, HA, HK1, ⟨m1, rfl⟩⟩ := hrel
  cases gk with
  | zero => exact absurd HA.out (by simp [qa.l0])
  | succ k1 =>
   have H := HA.out
   clear HA
   simp only [qa.l0] at H
   by_cases c3 : x5_1 < (l1.length : Int)
   ·rw [if_pos c3] at H
    have c3b0 : decide (x5_1 < (l1.length : Int)) = true := decide_eq_true c3
    clear c3
    by_cases c4 : 0 ≤ x5_1
    ·rw [if_pos c4] at H
     have c4b0 : decide (0 ≤ x5_1) = true := decide_eq_true c4
     clear c4
     replace H := Option.bind_eq_some_iff.mp H
     obtain ⟨t114, A50, H⟩ := H
     replace H : (if t114 = true then (qa.l0 k1 a0 l1 (wrap64 (x5_1 + 1))) else (some false)) = some r := H
     have A5 := Aside0.mk A50
     clear A50
     by_cases c6 : t114 = true
     ·subst c6
      have H1 : (qa.l0 k1 a0 l1 (wrap64 (x5_1 + 1))) = some r := by rw [if_pos rfl] at H; exact H
      clear H
      have H := H1
      clear H1
      have H' := Aside0.mk H
      clear H
      have p113 : 0 ≤ (x5_1 : Int) := of_decide_eq_true sqA
      have q113 : x5_1 < (l1.length : Int) := of_decide_eq_true sqA
      obtain ⟨ad113, e113, hx113_0⟩ := Kd.zT HR1.out x5_1 p113 q113
      cases e113
      replace p113 := eq_true p113
      replace q113 := eq_true q113
      go_wp2_with (first | ((with_reducible refine ze (f := 26) rfl ?_); refine zv (some 17) rfl rfl Tryz.func26 (by kernel_rfl) rfl #[.int .i64 a0, .int .i64 (rd l1 x5_1)] rfl sqM ?_; (with_reducible refine (qL.calls a0 (rd l1 x5_1) true _ A5.out).mono ?_); rintro e w' ⟨rfl, ⟨nd, rfl⟩⟩; refine ⟨_, rfl, ?_⟩))
      go_roundg k1
      case measure => have := HK1.out; omega
      case rel => exact ⟨(wrap64 (x5_1 + 1)), (sqD), H', ⟨by have := HK1.out; omega⟩, by repeat (first | exact zl.refl _ | apply zl.step)⟩
     ·replace c6 := Bool.eq_false_iff.mpr c6
      subst c6
      have H1 : (some false) = some r := by rw [if_neg (show ¬ (false = true) by decide)] at H; exact H
      clear H
      have H := H1
      clear H1
      obtain rfl := Option.some.inj H
      have p113 : 0 ≤ (x5_1 : Int) := of_decide_eq_true sqA
      have q113 : x5_1 < (l1.length : Int) := of_decide_eq_true sqA
      obtain ⟨ad113, e113, hx113_0⟩ := Kd.zT HR1.out x5_1 p113 q113
      cases e113
      replace p113 := eq_true p113
      replace q113 := eq_true q113
      go_wp2_with (first | ((with_reducible refine ze (f := 26) rfl ?_); refine zv (some 17) rfl rfl Tryz.func26 (by kernel_rfl) rfl #[.int .i64 a0, .int .i64 (rd l1 x5_1)] rfl sqM ?_; (with_reducible refine (qL.calls a0 (rd l1 x5_1) false _ A5.out).mono ?_); rintro e w' ⟨rfl, ⟨nd, rfl⟩⟩; refine ⟨_, rfl, ?_⟩))
      go_ret
      exact ⟨sqD, by repeat (first | exact zl.refl _ | apply zl.step)⟩
    ·rw [if_neg c4] at H
     exact absurd H (by simp)
   ·rw [if_neg c3] at H
    have c3b0 : decide (x5_1 < (l1.length : Int)) = false := decide_eq_false c3
    clear c3
    obtain rfl := Option.some.inj H
    go_wp2
    go_ret
    exact ⟨sqD, by repeat (first | exact zl.refl _ | apply zl.step)⟩

mutual
def zk.l0 : Nat → List Int → List Int → Int → Option (List Int)
 | 0, _, _, _ => none
 | k + 1, x0, x3, x4 => if x4 < (x0.length : Int) then (zk.l1 k x0 x3 x4 0) else (some x3)
def zk.l1 : Nat → List Int → List Int → Int → Int → Option (List Int)
 | 0, _, _, _, _ => none
 | k + 1, x0, x3, x4, x5 => if x5 < (x3.length : Int) then (if 0 ≤ x5 then (if 0 ≤ x4 then (if x4 < (x0.length : Int) then (if (rd x3 x5) < (rd x0 x4) then (zk.l1 k x0 x3 x4 (wrap64 (x5 + 1))) else (if (rd x3 x5) = (rd x0 x4) then (zk.l0 k x0 x3 (wrap64 (x4 + 1))) else ((some (([] : List Int) : List Int)).bind fun y122 => (if x5 ≤ (x3.length : Int) then ((some (x3.drop (x5 : Int).toNat : List Int)).bind fun y125 => (if y122.length + y125.length < 17592186044416 then ((some (y122 ++ y125 : List Int)).bind fun y129 => ((some (x3.take (x5 : Int).toNat : List Int)).bind fun y132 => (if y132.length < 17592186044416 then ((some (y132 ++ [rd x0 x4] : List Int)).bind fun y136 => (if y136.length + y129.length < 17592186044416 then (zk.l0 k x0 (y136 ++ y129) (wrap64 (x4 + 1))) else (none))) else (none)))) else (none))) else (none))))) else (none)) else (none)) else (none)) else ((some (([] : List Int) : List Int)).bind fun y142 => (if 0 ≤ x5 then (if x5 ≤ (x3.length : Int) then ((some (x3.drop (x5 : Int).toNat : List Int)).bind fun y145 => (if y142.length + y145.length < 17592186044416 then ((some (y142 ++ y145 : List Int)).bind fun y149 => ((some (x3.take (x5 : Int).toNat : List Int)).bind fun y152 => (if 0 ≤ x4 then (if x4 < (x0.length : Int) then (if y152.length < 17592186044416 then ((some (y152 ++ [rd x0 x4] : List Int)).bind fun y156 => (if y156.length + y149.length < 17592186044416 then (zk.l0 k x0 (y156 ++ y149) (wrap64 (x4 + 1))) else (none))) else (none)) else (none)) else (none)))) else (none))) else (none)) else (none)))
end
def zk.f (k : Nat) (l0 : List Int) : Option (List Int) := zk.l0 k l0 (([] : List Int)) 0
def zk.T6 : Bool × List (List Nat × List Nat) := (true, [([], []), ([], []), ([1], [1]), ([0, 2], [0, 2]), ([3], [3]), ([4], [4]), ([4], [4]), ([5, 6, 4], [4, 5, 6]), ([7, 4], [4, 7]), ([4], [4]), ([4], [4]), ([9, 10, 4], [4, 9, 10]), ([11, 4], [4, 11]), ([8, 12, 4], [4, 8, 12]), ([4, 13], [4, 13])])
def zk.B6 : List Nat := [0, 0, 2, 7, 15, 31, 31, 127, 255, 31, 31, 1567, 3615, 8191, 16383]
theorem zk.JH : vO .any (opsOf Tryz.f33 6) = zk.T6 := by kernel_rfl
theorem zk.Zz : vt zk.T6.2 zk.B6 = true := by kernel_rfl
def zk.T8 : Bool × List (List Nat × List Nat) := (true, [([], []), ([], []), ([1], [1]), ([0, 2], [0, 2]), ([3], [3]), ([4], [4]), ([4], [4]), ([5, 6, 4], [4, 5, 6]), ([7, 4], [4, 7]), ([4], [4]), ([4], [4]), ([9, 10, 4], [4, 9, 10]), ([11, 4], [4, 11]), ([8, 12, 4], [4, 8, 12]), ([4, 13], [4, 13])])
def zk.B8 : List Nat := [0, 0, 2, 7, 15, 31, 31, 127, 255, 31, 31, 1567, 3615, 8191, 16383]
theorem zk.zbk : vO .any (opsOf Tryz.f33 8) = zk.T8 := by kernel_rfl
theorem zk.zar : vt zk.T8.2 zk.B8 = true := by kernel_rfl
def zk.T10 : Bool × List (List Nat × List Nat) := (true, [([], []), ([], []), ([0, 1], [0, 1]), ([], []), ([], []), ([3, 4], [3, 4]), ([5], [5]), ([6], [6]), ([2, 7], [2, 7]), ([], []), ([8, 9, 8], [8, 9]), ([10, 10, 0, 1, 2, 3, 4, 5, 6, 7, 8, 9, 10], [0, 10])])
def zk.B10 : List Nat := [0, 0, 3, 0, 0, 24, 56, 120, 255, 0, 1023, 2047]
theorem zk.za8 : vO .any (opsOf Tryz.f33 10) = zk.T10 := by kernel_rfl
theorem zk.zaD : vt zk.T10.2 zk.B10 = true := by kernel_rfl
theorem zk.calls (k : Nat) (A0 : Option Addr) (c0 : Nat) (l0 : List Int) (r : List Int) (w : World) (hr0 : Kd.C (Kd.int .i64) w A0 l0.length l0) (hc0 : l0.length ≤ c0) (h : zk.f k l0 = some r) :
  Calls Tryz.prog 33 #[.slice A0 l0.length c0] w fun e w' => ∃ v0_ : Value, e = .returned (v0_) ∧ Kd.R (Kd.int .i64) 3 w' w.heap.size (fun _ => True) v0_ r ∧ Below w.heap.size w w' := by
 have HR0 := Aside0.mk hr0
 have HC0 := Aside0.mk hc0
 clear hr0 hc0
 have HB := Aside0.mk (Below.refl w.heap.size w)
 have H : (zk.l0 k l0 (([] : List Int)) 0) = some r := h
 clear h
 obtain ⟨y115, hy115⟩ : ∃ y_ : List Int, y_ = (([] : List Int)) := ⟨_, rfl⟩
 replace H : (zk.l0 k l0 y115 0) = some r := by first | (rw [hy115]; with_reducible exact H) | (have H2_ := (Option.bind_some _ _).symm.trans H; rw [hy115]; with_reducible exact H2_) | (have H2_ := (Option.bind_some _ _).symm.trans H; with_reducible exact H2_) | with_reducible exact H | (rw [hy115]; exact H) | exact H
 have Ny115 := Aside0.mk hy115
 clear hy115
 have H' := Aside0.mk H
 clear H
 go_enter Tryz.func33, Tryz.ntmps33
 go_wp2_with (first | ((with_reducible refine zm (N := 7) rfl ?_); refine Kd.jy (Kd.int .i64) _ 3 ?hg (N := 7) ?hd (xs := ([] : List Int)) (inner := []) (ok := fun _ => True) (okp := fun _ => True) ?hr ?hp (fun _ hk => hk) trivial (Below.refl _ _) (Nat.le_refl _) (by simp) ?_; (case hd => rfl); (case hg => rfl); (case hr => exact sqG); (case hp => exact (qK.none _ _)); intro v116 w2 ho3 hb hg_ hnew_; clear hg_ hnew_; (first | rw [← Ny115.out] at ho3 | (simp only [Int.reduceToNat] at ho3; rw [← Ny115.out] at ho3)); have n0_ := Aside0.mk (Kd.zD ho3 (zh sqB)); have n1_ := Aside0.mk (zc sqB hb); clear HB; have HO117 := n0_; have HB := n1_; clear n0_ n1_; clear hb ho3))
 go_loopg [3, 4] k (fun kq v3 v4 w' => ∃ (x3_1 : List Int) (x4_1 : Int), v4 = .int .i64 x4_1 ∧ Aside0 (zk.l0 kq l0 x3_1 x4_1 = some r) ∧ Aside0 (kq ≤ k) ∧ Aside0 (Kd.R (Kd.int .i64) 3 w' w.heap.size (fun _ => True) v3 x3_1) ∧ Aside0 (Below w.heap.size w w'))
 case atStart => exact ⟨(y115), (0), (sqD), H', ⟨Nat.le_refl _⟩, ⟨sqR HO117.out⟩, ⟨sqB⟩⟩
 case round =>
  clear H'
  try clear p2
  try clear c3
  obtain ⟨x3_1, x4_1, rfl, HA, HK1, HO_3, HB⟩ := hrel
  cases gk with
  | zero => exact absurd HA.out (by simp [zk.l0])
  | succ k1 =>
   have H := HA.out
   clear HA
   simp only [zk.l0] at H
   by_cases c4 : x4_1 < (l0.length : Int)
   ·rw [if_pos c4] at H
    have c4b0 : decide (x4_1 < (l0.length : Int)) = true := decide_eq_true c4
    clear c4
    have H' := Aside0.mk H
    clear H
    go_wp2
    go_loopg [5] k1 (fun kq v5 w' => ∃ (x5_2 : Int), v5 = .int .i64 x5_2 ∧ Aside0 (zk.l1 kq l0 x3_1 x4_1 x5_2 = some r) ∧ Aside0 (kq ≤ k1) ∧ Aside0 (Kd.R (Kd.int .i64) 3 w' w.heap.size (fun _ => True) u3 x3_1) ∧ Aside0 (Below w.heap.size w w'))
    case atStart => exact ⟨(0), (sqD), H', ⟨Nat.le_refl _⟩, ⟨sqR HO_3.out⟩, ⟨sqB⟩⟩
    case round =>
     clear H'
     try clear p2
     try clear c3
     try clear c4
     try clear c4b0
     try clear p2
     obtain ⟨x5_2, rfl, HA, HK2, HO_3, HB⟩ := hrel
     cases gk with
     | zero => exact absurd HA.out (by simp [zk.l1])
     | succ k2 =>
      have H := HA.out
      clear HA
      simp only [zk.l1] at H
      by_cases c5 : x5_2 < (x3_1.length : Int)
      ·rw [if_pos c5] at H
       have c5b0 : decide (x5_2 < (x3_1.length : Int)) = true := decide_eq_true c5
       clear c5
       by_cases c6 : 0 ≤ x5_2
       ·rw [if_pos c6] at H
        have c6b0 : decide (0 ≤ x5_2) = true := decide_eq_true c6
        clear c6
        by_cases c7 : 0 ≤ x4_1
        ·rw [if_pos c7] at H
         have c7b0 : decide (0 ≤ x4_1) = true := decide_eq_true c7
         clear c7
         by_cases c8 : x4_1 < (l0.length : Int)
         ·rw [if_pos c8] at H
          have c8b0 : decide (x4_1 < (l0.length : Int)) = true := decide_eq_true c8
          clear c8
          by_cases c9 : (rd x3_1 x5_2) < (rd l0 x4_1)
          ·rw [if_pos c9] at H
           have c9b0 : decide ((rd x3_1 x5_2) < (rd l0 x4_1)) = true := decide_eq_true c9
           clear c9
           have H' := Aside0.mk H
           clear H
           try go_wp2
           have n0_ := Aside0.mk (Kd.jL HO_3.out)
           have n1_ := Aside0.mk (qg HB.out)
           clear HO_3
           clear HB
           have HO_3 := n0_
           have HB := n1_
           clear n0_ n1_
           obtain ⟨Ao11, co11, eo11⟩ := Kd.zK HO_3.out
           (first | subst eo11 | (injection eo11 with f1_ f2_ f3_; have f4_ := f1_.symm; have f5_ := f3_.symm; clear f1_ f2_ f3_; subst f4_; subst f5_))
           have p118 : 0 ≤ (x5_2 : Int) := of_decide_eq_true sqA
           have q118 : x5_2 < (x3_1.length : Int) := of_decide_eq_true sqA
           obtain ⟨ad118, e118, hx118_0⟩ := Kd.zT (Kd.zg HO_3.out).2.2 x5_2 p118 q118
           cases e118
           replace p118 := eq_true p118
           replace q118 := eq_true q118
           have p119 : 0 ≤ (x4_1 : Int) := of_decide_eq_true sqA
           have q119 : x4_1 < (l0.length : Int) := of_decide_eq_true sqA
           obtain ⟨ad119, e119, hx119_0⟩ := Kd.zT HR0.out x4_1 p119 q119
           have hw119_0 := hx119_0
           cases e119
           replace hx119_0 := (HB.out.cell (World.block_lt_of_cell? w _ hx119_0)).trans hx119_0
           replace p119 := eq_true p119
           replace q119 := eq_true q119
           refine jW (n := 15) (S := fun w' => w'.cell? (ad118.add (x5_2).toNat) = some (.int .i64 (rd x3_1 x5_2)) ∧ w'.cell? (ad119.add (x4_1).toNat) = some (.int .i64 (rd l0 x4_1))) (ds := []) #[false, false, false, false, false, false, false, false, false, false, false, false, false, false, false] (by kernel_rfl) rfl rfl ⟨hx118_0, ((HB.out.cell (World.block_lt_of_cell? w _ hw119_0)).trans hw119_0)⟩ (fun hHeld => ?_); refine ja zk.JH zk.Zz (fun HT_ HW_ => ?_)
           generalize wr.drew = w10 at HO_3 HB hx118_0 hx119_0 hHeld ⊢
           refine zO (i := 0) (N := some 14) (v := ?_) (a' := ?_) #[true, false, false, false, false, false, false, false, false, false, false, false, false, false, false] rfl rfl (zC HT_.out (by kernel_rfl)) (fun _ _ _ h => h) (Or.inl ⟨by rfl, ?_⟩) ?_ ?_
           rotate_left
           ·intro w'
            go_simp
            with_reducible rfl
           rotate_left
           ·simp only [Act.put, List.setIfInBounds_toArray, List.set_cons_zero, List.set_cons_succ, zi, zj]
            rfl
           refine zO (i := 1) (N := some 15) (v := ?_) (a' := ?_) #[true, true, false, false, false, false, false, false, false, false, false, false, false, false, false] rfl rfl (zC HT_.out (by kernel_rfl)) (fun _ _ _ h => h) (Or.inl ⟨by rfl, ?_⟩) ?_ ?_
           rotate_left
           ·intro w'
            go_simp
            with_reducible rfl
           rotate_left
           ·simp only [Act.put, List.setIfInBounds_toArray, List.set_cons_zero, List.set_cons_succ, zi, zj]
            rfl
           refine zO (i := 2) (N := some 16) (v := ?_) (a' := ?_) #[true, true, true, false, false, false, false, false, false, false, false, false, false, false, false] rfl rfl (zC HT_.out (by kernel_rfl)) (fun _ _ _ h => h) (Or.inl ⟨by rfl, ?_⟩) ?_ ?_
           rotate_left
           ·intro w'
            go_simp
            with_reducible rfl
           rotate_left
           ·simp only [Act.put, List.setIfInBounds_toArray, List.set_cons_zero, List.set_cons_succ, zi, zj]
            rfl
           refine zO (i := 3) (N := some 17) (v := ?_) (a' := ?_) #[true, true, true, true, false, false, false, false, false, false, false, false, false, false, false] rfl rfl (zC HT_.out (by kernel_rfl)) (fun _ _ _ h => h) (Or.inl ⟨by rfl, ?_⟩) ?_ ?_
           rotate_left
           ·intro w'
            go_simp
            with_reducible rfl
           rotate_left
           ·simp only [Act.put, List.setIfInBounds_toArray, List.set_cons_zero, List.set_cons_succ, zi, zj]
            rfl
           refine zO (i := 4) (N := some 18) (v := ?_) (a' := ?_) #[true, true, true, true, true, false, false, false, false, false, false, false, false, false, false] rfl rfl (zC HT_.out (by kernel_rfl)) (fun _ _ _ h => h) (Or.inl ⟨by rfl, ?_⟩) ?_ ?_
           rotate_left
           ·intro w'
            go_simp
            with_reducible rfl
           rotate_left
           ·simp only [Act.put, List.setIfInBounds_toArray, List.set_cons_zero, List.set_cons_succ, zi, zj]
            rfl
           refine zO (i := 5) (N := some 19) (v := ?_) (a' := ?_) #[true, true, true, true, true, true, false, false, false, false, false, false, false, false, false] rfl rfl (zC HT_.out (by kernel_rfl)) (fun _ _ _ h => h) (Or.inl ⟨by rfl, ?_⟩) ?_ ?_
           rotate_left
           ·intro w'
            go_simp
            with_reducible rfl
           rotate_left
           ·simp only [Act.put, List.setIfInBounds_toArray, List.set_cons_zero, List.set_cons_succ, zi, zj]
            rfl
           refine zO (i := 6) (N := some 20) (v := ?_) (a' := ?_) #[true, true, true, true, true, true, true, false, false, false, false, false, false, false, false] rfl rfl (zC HT_.out (by kernel_rfl)) (fun _ _ _ h => h) (Or.inl ⟨by rfl, ?_⟩) ?_ ?_
           rotate_left
           ·intro w'
            go_simp
            with_reducible rfl
           rotate_left
           ·simp only [Act.put, List.setIfInBounds_toArray, List.set_cons_zero, List.set_cons_succ, zi, zj]
            rfl
           refine zO (i := 7) (N := some 21) (v := ?_) (a' := ?_) #[true, true, true, true, true, true, true, true, false, false, false, false, false, false, false] rfl rfl (zC HT_.out (by kernel_rfl)) (fun _ _ _ h => h) (Or.inl ⟨by rfl, ?_⟩) ?_ ?_
           rotate_left
           ·intro w'
            go_simp
            with_reducible rfl
           rotate_left
           ·simp only [Act.put, List.setIfInBounds_toArray, List.set_cons_zero, List.set_cons_succ, zi, zj]
            rfl
           refine zO (i := 9) (N := some 23) (v := ?_) (a' := ?_) #[true, true, true, true, true, true, true, true, false, true, false, false, false, false, false] rfl rfl (zC HT_.out (by kernel_rfl)) (fun _ _ _ h => h) (Or.inl ⟨by rfl, ?_⟩) ?_ ?_
           rotate_left
           ·intro w'
            go_simp
            with_reducible rfl
           rotate_left
           ·simp only [Act.put, List.setIfInBounds_toArray, List.set_cons_zero, List.set_cons_succ, zi, zj]
            rfl
           refine zO (i := 10) (N := some 24) (v := ?_) (a' := ?_) #[true, true, true, true, true, true, true, true, false, true, true, false, false, false, false] rfl rfl (zC HT_.out (by kernel_rfl)) (fun _ _ _ h => h) (Or.inl ⟨by rfl, ?_⟩) ?_ ?_
           rotate_left
           ·intro w'
            go_simp
            with_reducible rfl
           rotate_left
           ·simp only [Act.put, List.setIfInBounds_toArray, List.set_cons_zero, List.set_cons_succ, zi, zj]
            rfl
           refine zO (i := 11) (N := some 25) (v := ?_) (a' := ?_) #[true, true, true, true, true, true, true, true, false, true, true, true, false, false, false] rfl rfl (zC HT_.out (by kernel_rfl)) (fun _ _ _ h => h) (Or.inl ⟨by rfl, ?_⟩) ?_ ?_
           rotate_left
           ·intro w'
            go_simp
            with_reducible rfl
           rotate_left
           ·simp only [Act.put, List.setIfInBounds_toArray, List.set_cons_zero, List.set_cons_succ, zi, zj]
            rfl
           refine jD (i := 8) (N := some 22) (v := ?_) (a' := ?_) #[true, true, true, true, true, true, true, true, true, true, true, true, false, false, false] rfl rfl (qT HT_.out HW_.out (by kernel_rfl)) (fun _ _ _ h => h) (Or.inl ⟨by rfl, ?_⟩) hHeld ?_ ?_
           rotate_left
           ·rintro w' ⟨s0, s1⟩
            go_simp
            with_reducible rfl
           rotate_left
           ·simp only [Act.put, List.setIfInBounds_toArray, List.set_cons_zero, List.set_cons_succ, zi, zj]
            rfl
           refine jD (i := 12) (N := some 26) (v := ?_) (a' := ?_) #[true, true, true, true, true, true, true, true, true, true, true, true, true, false, false] rfl rfl (qT HT_.out HW_.out (by kernel_rfl)) (fun _ _ _ h => h) (Or.inl ⟨by rfl, ?_⟩) hHeld ?_ ?_
           rotate_left
           ·rintro w' ⟨s0, s1⟩
            go_simp
            with_reducible rfl
           rotate_left
           ·simp only [Act.put, List.setIfInBounds_toArray, List.set_cons_zero, List.set_cons_succ, zi, zj]
            rfl
           refine zO (i := 13) (N := some 27) (v := ?_) (a' := ?_) #[true, true, true, true, true, true, true, true, true, true, true, true, true, true, false] rfl rfl (zC HT_.out (by kernel_rfl)) (fun _ _ _ h => h) (Or.inl ⟨by rfl, ?_⟩) ?_ ?_
           rotate_left
           ·intro w'
            go_simp
            with_reducible rfl
           rotate_left
           ·simp only [Act.put, List.setIfInBounds_toArray, List.set_cons_zero, List.set_cons_succ, zi, zj]
            rfl
           refine zO (i := 14) (N := some 28) (v := ?_) (a' := ?_) #[true, true, true, true, true, true, true, true, true, true, true, true, true, true, true] rfl rfl (zC HT_.out (by kernel_rfl)) (fun _ _ _ h => h) (Or.inl ⟨by rfl, ?_⟩) ?_ ?_
           rotate_left
           ·intro w'
            go_simp
            with_reducible rfl
           rotate_left
           ·simp only [Act.put, List.setIfInBounds_toArray, List.set_cons_zero, List.set_cons_succ, zi, zj]
            rfl
           refine vF (jK HT_.out (by kernel_rfl)) ?_
           try go_wp2
           go_roundg k2
           case measure => have := HK1.out; have := HK2.out; omega
           case rel => exact ⟨(wrap64 (x5_2 + 1)), (sqD), H', ⟨by have := HK1.out; have := HK2.out; omega⟩, ⟨sqR HO_3.out⟩, ⟨sqB⟩⟩
          ·rw [if_neg c9] at H
           have c9b0 : decide ((rd x3_1 x5_2) < (rd l0 x4_1)) = false := decide_eq_false c9
           clear c9
           by_cases c12 : (rd x3_1 x5_2) = (rd l0 x4_1)
           ·rw [if_pos c12] at H
            have c12b0 : ((rd x3_1 x5_2) == (rd l0 x4_1)) = true := beq_iff_eq.mpr c12
            have c12b1 : ((rd x3_1 x5_2) != (rd l0 x4_1)) = false := bne_eq_false_iff_eq.mpr c12
            clear c12
            have H' := Aside0.mk H
            clear H
            try go_wp2
            have n0_ := Aside0.mk (Kd.jL HO_3.out)
            have n1_ := Aside0.mk (qg HB.out)
            clear HO_3
            clear HB
            have HO_3 := n0_
            have HB := n1_
            clear n0_ n1_
            obtain ⟨Ao14, co14, eo14⟩ := Kd.zK HO_3.out
            (first | subst eo14 | (injection eo14 with f1_ f2_ f3_; have f4_ := f1_.symm; have f5_ := f3_.symm; clear f1_ f2_ f3_; subst f4_; subst f5_))
            have p118 : 0 ≤ (x5_2 : Int) := of_decide_eq_true sqA
            have q118 : x5_2 < (x3_1.length : Int) := of_decide_eq_true sqA
            obtain ⟨ad118, e118, hx118_0⟩ := Kd.zT (Kd.zg HO_3.out).2.2 x5_2 p118 q118
            cases e118
            replace p118 := eq_true p118
            replace q118 := eq_true q118
            have p119 : 0 ≤ (x4_1 : Int) := of_decide_eq_true sqA
            have q119 : x4_1 < (l0.length : Int) := of_decide_eq_true sqA
            obtain ⟨ad119, e119, hx119_0⟩ := Kd.zT HR0.out x4_1 p119 q119
            have hw119_0 := hx119_0
            cases e119
            replace hx119_0 := (HB.out.cell (World.block_lt_of_cell? w _ hx119_0)).trans hx119_0
            replace p119 := eq_true p119
            replace q119 := eq_true q119
            refine jW (n := 15) (S := fun w' => w'.cell? (ad118.add (x5_2).toNat) = some (.int .i64 (rd x3_1 x5_2)) ∧ w'.cell? (ad119.add (x4_1).toNat) = some (.int .i64 (rd l0 x4_1))) (ds := []) #[false, false, false, false, false, false, false, false, false, false, false, false, false, false, false] (by kernel_rfl) rfl rfl ⟨hx118_0, ((HB.out.cell (World.block_lt_of_cell? w _ hw119_0)).trans hw119_0)⟩ (fun hHeld => ?_); refine ja zk.JH zk.Zz (fun HT_ HW_ => ?_)
            generalize wr.drew = w13 at HO_3 HB hx118_0 hx119_0 hHeld ⊢
            refine zO (i := 0) (N := some 14) (v := ?_) (a' := ?_) #[true, false, false, false, false, false, false, false, false, false, false, false, false, false, false] rfl rfl (zC HT_.out (by kernel_rfl)) (fun _ _ _ h => h) (Or.inl ⟨by rfl, ?_⟩) ?_ ?_
            rotate_left
            ·intro w'
             go_simp
             with_reducible rfl
            rotate_left
            ·simp only [Act.put, List.setIfInBounds_toArray, List.set_cons_zero, List.set_cons_succ, zi, zj]
             rfl
            refine zO (i := 1) (N := some 15) (v := ?_) (a' := ?_) #[true, true, false, false, false, false, false, false, false, false, false, false, false, false, false] rfl rfl (zC HT_.out (by kernel_rfl)) (fun _ _ _ h => h) (Or.inl ⟨by rfl, ?_⟩) ?_ ?_
            rotate_left
            ·intro w'
             go_simp
             with_reducible rfl
            rotate_left
            ·simp only [Act.put, List.setIfInBounds_toArray, List.set_cons_zero, List.set_cons_succ, zi, zj]
             rfl
            refine zO (i := 2) (N := some 16) (v := ?_) (a' := ?_) #[true, true, true, false, false, false, false, false, false, false, false, false, false, false, false] rfl rfl (zC HT_.out (by kernel_rfl)) (fun _ _ _ h => h) (Or.inl ⟨by rfl, ?_⟩) ?_ ?_
            rotate_left
            ·intro w'
             go_simp
             with_reducible rfl
            rotate_left
            ·simp only [Act.put, List.setIfInBounds_toArray, List.set_cons_zero, List.set_cons_succ, zi, zj]
             rfl
            refine zO (i := 3) (N := some 17) (v := ?_) (a' := ?_) #[true, true, true, true, false, false, false, false, false, false, false, false, false, false, false] rfl rfl (zC HT_.out (by kernel_rfl)) (fun _ _ _ h => h) (Or.inl ⟨by rfl, ?_⟩) ?_ ?_
            rotate_left
            ·intro w'
             go_simp
             with_reducible rfl
            rotate_left
            ·simp only [Act.put, List.setIfInBounds_toArray, List.set_cons_zero, List.set_cons_succ, zi, zj]
             rfl
            refine zO (i := 4) (N := some 18) (v := ?_) (a' := ?_) #[true, true, true, true, true, false, false, false, false, false, false, false, false, false, false] rfl rfl (zC HT_.out (by kernel_rfl)) (fun _ _ _ h => h) (Or.inl ⟨by rfl, ?_⟩) ?_ ?_
            rotate_left
            ·intro w'
             go_simp
             with_reducible rfl
            rotate_left
            ·simp only [Act.put, List.setIfInBounds_toArray, List.set_cons_zero, List.set_cons_succ, zi, zj]
             rfl
            refine zO (i := 5) (N := some 19) (v := ?_) (a' := ?_) #[true, true, true, true, true, true, false, false, false, false, false, false, false, false, false] rfl rfl (zC HT_.out (by kernel_rfl)) (fun _ _ _ h => h) (Or.inl ⟨by rfl, ?_⟩) ?_ ?_
            rotate_left
            ·intro w'
             go_simp
             with_reducible rfl
            rotate_left
            ·simp only [Act.put, List.setIfInBounds_toArray, List.set_cons_zero, List.set_cons_succ, zi, zj]
             rfl
            refine zO (i := 6) (N := some 20) (v := ?_) (a' := ?_) #[true, true, true, true, true, true, true, false, false, false, false, false, false, false, false] rfl rfl (zC HT_.out (by kernel_rfl)) (fun _ _ _ h => h) (Or.inl ⟨by rfl, ?_⟩) ?_ ?_
            rotate_left
            ·intro w'
             go_simp
             with_reducible rfl
            rotate_left
            ·simp only [Act.put, List.setIfInBounds_toArray, List.set_cons_zero, List.set_cons_succ, zi, zj]
             rfl
            refine zO (i := 7) (N := some 21) (v := ?_) (a' := ?_) #[true, true, true, true, true, true, true, true, false, false, false, false, false, false, false] rfl rfl (zC HT_.out (by kernel_rfl)) (fun _ _ _ h => h) (Or.inl ⟨by rfl, ?_⟩) ?_ ?_
            rotate_left
            ·intro w'
             go_simp
             with_reducible rfl
            rotate_left
            ·simp only [Act.put, List.setIfInBounds_toArray, List.set_cons_zero, List.set_cons_succ, zi, zj]
             rfl
            refine zO (i := 9) (N := some 23) (v := ?_) (a' := ?_) #[true, true, true, true, true, true, true, true, false, true, false, false, false, false, false] rfl rfl (zC HT_.out (by kernel_rfl)) (fun _ _ _ h => h) (Or.inl ⟨by rfl, ?_⟩) ?_ ?_
            rotate_left
            ·intro w'
             go_simp
             with_reducible rfl
            rotate_left
            ·simp only [Act.put, List.setIfInBounds_toArray, List.set_cons_zero, List.set_cons_succ, zi, zj]
             rfl
            refine zO (i := 10) (N := some 24) (v := ?_) (a' := ?_) #[true, true, true, true, true, true, true, true, false, true, true, false, false, false, false] rfl rfl (zC HT_.out (by kernel_rfl)) (fun _ _ _ h => h) (Or.inl ⟨by rfl, ?_⟩) ?_ ?_
            rotate_left
            ·intro w'
             go_simp
             with_reducible rfl
            rotate_left
            ·simp only [Act.put, List.setIfInBounds_toArray, List.set_cons_zero, List.set_cons_succ, zi, zj]
             rfl
            refine zO (i := 11) (N := some 25) (v := ?_) (a' := ?_) #[true, true, true, true, true, true, true, true, false, true, true, true, false, false, false] rfl rfl (zC HT_.out (by kernel_rfl)) (fun _ _ _ h => h) (Or.inl ⟨by rfl, ?_⟩) ?_ ?_
            rotate_left
            ·intro w'
             go_simp
             with_reducible rfl
            rotate_left
            ·simp only [Act.put, List.setIfInBounds_toArray, List.set_cons_zero, List.set_cons_succ, zi, zj]
             rfl
            refine jD (i := 8) (N := some 22) (v := ?_) (a' := ?_) #[true, true, true, true, true, true, true, true, true, true, true, true, false, false, false] rfl rfl (qT HT_.out HW_.out (by kernel_rfl)) (fun _ _ _ h => h) (Or.inl ⟨by rfl, ?_⟩) hHeld ?_ ?_
            rotate_left
            ·rintro w' ⟨s0, s1⟩
             go_simp
             with_reducible rfl
            rotate_left
            ·simp only [Act.put, List.setIfInBounds_toArray, List.set_cons_zero, List.set_cons_succ, zi, zj]
             rfl
            refine jD (i := 12) (N := some 26) (v := ?_) (a' := ?_) #[true, true, true, true, true, true, true, true, true, true, true, true, true, false, false] rfl rfl (qT HT_.out HW_.out (by kernel_rfl)) (fun _ _ _ h => h) (Or.inl ⟨by rfl, ?_⟩) hHeld ?_ ?_
            rotate_left
            ·rintro w' ⟨s0, s1⟩
             go_simp
             with_reducible rfl
            rotate_left
            ·simp only [Act.put, List.setIfInBounds_toArray, List.set_cons_zero, List.set_cons_succ, zi, zj]
             rfl
            refine zO (i := 13) (N := some 27) (v := ?_) (a' := ?_) #[true, true, true, true, true, true, true, true, true, true, true, true, true, true, false] rfl rfl (zC HT_.out (by kernel_rfl)) (fun _ _ _ h => h) (Or.inl ⟨by rfl, ?_⟩) ?_ ?_
            rotate_left
            ·intro w'
             go_simp
             with_reducible rfl
            rotate_left
            ·simp only [Act.put, List.setIfInBounds_toArray, List.set_cons_zero, List.set_cons_succ, zi, zj]
             rfl
            refine zO (i := 14) (N := some 28) (v := ?_) (a' := ?_) #[true, true, true, true, true, true, true, true, true, true, true, true, true, true, true] rfl rfl (zC HT_.out (by kernel_rfl)) (fun _ _ _ h => h) (Or.inl ⟨by rfl, ?_⟩) ?_ ?_
            rotate_left
            ·intro w'
             go_simp
             with_reducible rfl
            rotate_left
            ·simp only [Act.put, List.setIfInBounds_toArray, List.set_cons_zero, List.set_cons_succ, zi, zj]
             rfl
            refine vF (jK HT_.out (by kernel_rfl)) ?_
            try go_wp2
            have n0_ := Aside0.mk (Kd.jL HO_3.out)
            have n1_ := Aside0.mk (qg HB.out)
            clear HO_3
            clear HB
            have HO_3 := n0_
            have HB := n1_
            clear n0_ n1_
            have p120 : 0 ≤ (x5_2 : Int) := of_decide_eq_true sqA
            have q120 : x5_2 < (x3_1.length : Int) := of_decide_eq_true sqA
            obtain ⟨ad120, e120, hx120_0⟩ := Kd.zT (Kd.zg HO_3.out).2.2 x5_2 p120 q120
            obtain rfl : ad118 = ad120 := (by injection e120)
            replace p120 := eq_true p120
            replace q120 := eq_true q120
            have p121 : 0 ≤ (x4_1 : Int) := of_decide_eq_true sqA
            have q121 : x4_1 < (l0.length : Int) := of_decide_eq_true sqA
            obtain ⟨ad121, e121, hx121_0⟩ := Kd.zT HR0.out x4_1 p121 q121
            have hw121_0 := hx121_0
            obtain rfl : ad119 = ad121 := (by injection e121)
            replace hx121_0 := (HB.out.cell (World.block_lt_of_cell? w _ hx121_0)).trans hx121_0
            replace p121 := eq_true p121
            replace q121 := eq_true q121
            refine jW (n := 15) (S := fun w' => w'.cell? (ad118.add (x5_2).toNat) = some (.int .i64 (rd x3_1 x5_2)) ∧ w'.cell? (ad119.add (x4_1).toNat) = some (.int .i64 (rd l0 x4_1))) (ds := []) #[false, false, false, false, false, false, false, false, false, false, false, false, false, false, false] (by kernel_rfl) rfl rfl ⟨hx120_0, ((HB.out.cell (World.block_lt_of_cell? w _ hw121_0)).trans hw121_0)⟩ (fun hHeld => ?_); refine ja zk.zbk zk.zar (fun HT_ HW_ => ?_)
            generalize w13.drew = w15 at HO_3 HB hx120_0 hx121_0 hHeld ⊢
            refine zO (i := 0) (N := some 31) (v := ?_) (a' := ?_) #[true, false, false, false, false, false, false, false, false, false, false, false, false, false, false] rfl rfl (zC HT_.out (by kernel_rfl)) (fun _ _ _ h => h) (Or.inl ⟨by rfl, ?_⟩) ?_ ?_
            rotate_left
            ·intro w'
             go_simp
             with_reducible rfl
            rotate_left
            ·simp only [Act.put, List.setIfInBounds_toArray, List.set_cons_zero, List.set_cons_succ, zi, zj]
             rfl
            refine zO (i := 1) (N := some 32) (v := ?_) (a' := ?_) #[true, true, false, false, false, false, false, false, false, false, false, false, false, false, false] rfl rfl (zC HT_.out (by kernel_rfl)) (fun _ _ _ h => h) (Or.inl ⟨by rfl, ?_⟩) ?_ ?_
            rotate_left
            ·intro w'
             go_simp
             with_reducible rfl
            rotate_left
            ·simp only [Act.put, List.setIfInBounds_toArray, List.set_cons_zero, List.set_cons_succ, zi, zj]
             rfl
            refine zO (i := 2) (N := some 33) (v := ?_) (a' := ?_) #[true, true, true, false, false, false, false, false, false, false, false, false, false, false, false] rfl rfl (zC HT_.out (by kernel_rfl)) (fun _ _ _ h => h) (Or.inl ⟨by rfl, ?_⟩) ?_ ?_
            rotate_left
            ·intro w'
             go_simp
             with_reducible rfl
            rotate_left
            ·simp only [Act.put, List.setIfInBounds_toArray, List.set_cons_zero, List.set_cons_succ, zi, zj]
             rfl
            refine zO (i := 3) (N := some 34) (v := ?_) (a' := ?_) #[true, true, true, true, false, false, false, false, false, false, false, false, false, false, false] rfl rfl (zC HT_.out (by kernel_rfl)) (fun _ _ _ h => h) (Or.inl ⟨by rfl, ?_⟩) ?_ ?_
            rotate_left
            ·intro w'
             go_simp
             with_reducible rfl
            rotate_left
            ·simp only [Act.put, List.setIfInBounds_toArray, List.set_cons_zero, List.set_cons_succ, zi, zj]
             rfl
            refine zO (i := 4) (N := some 35) (v := ?_) (a' := ?_) #[true, true, true, true, true, false, false, false, false, false, false, false, false, false, false] rfl rfl (zC HT_.out (by kernel_rfl)) (fun _ _ _ h => h) (Or.inl ⟨by rfl, ?_⟩) ?_ ?_
            rotate_left
            ·intro w'
             go_simp
             with_reducible rfl
            rotate_left
            ·simp only [Act.put, List.setIfInBounds_toArray, List.set_cons_zero, List.set_cons_succ, zi, zj]
             rfl
            refine zO (i := 5) (N := some 36) (v := ?_) (a' := ?_) #[true, true, true, true, true, true, false, false, false, false, false, false, false, false, false] rfl rfl (zC HT_.out (by kernel_rfl)) (fun _ _ _ h => h) (Or.inl ⟨by rfl, ?_⟩) ?_ ?_
            rotate_left
            ·intro w'
             go_simp
             with_reducible rfl
            rotate_left
            ·simp only [Act.put, List.setIfInBounds_toArray, List.set_cons_zero, List.set_cons_succ, zi, zj]
             rfl
            refine zO (i := 6) (N := some 37) (v := ?_) (a' := ?_) #[true, true, true, true, true, true, true, false, false, false, false, false, false, false, false] rfl rfl (zC HT_.out (by kernel_rfl)) (fun _ _ _ h => h) (Or.inl ⟨by rfl, ?_⟩) ?_ ?_
            rotate_left
            ·intro w'
             go_simp
             with_reducible rfl
            rotate_left
            ·simp only [Act.put, List.setIfInBounds_toArray, List.set_cons_zero, List.set_cons_succ, zi, zj]
             rfl
            refine zO (i := 7) (N := some 38) (v := ?_) (a' := ?_) #[true, true, true, true, true, true, true, true, false, false, false, false, false, false, false] rfl rfl (zC HT_.out (by kernel_rfl)) (fun _ _ _ h => h) (Or.inl ⟨by rfl, ?_⟩) ?_ ?_
            rotate_left
            ·intro w'
             go_simp
             with_reducible rfl
            rotate_left
            ·simp only [Act.put, List.setIfInBounds_toArray, List.set_cons_zero, List.set_cons_succ, zi, zj]
             rfl
            refine zO (i := 9) (N := some 40) (v := ?_) (a' := ?_) #[true, true, true, true, true, true, true, true, false, true, false, false, false, false, false] rfl rfl (zC HT_.out (by kernel_rfl)) (fun _ _ _ h => h) (Or.inl ⟨by rfl, ?_⟩) ?_ ?_
            rotate_left
            ·intro w'
             go_simp
             with_reducible rfl
            rotate_left
            ·simp only [Act.put, List.setIfInBounds_toArray, List.set_cons_zero, List.set_cons_succ, zi, zj]
             rfl
            refine zO (i := 10) (N := some 41) (v := ?_) (a' := ?_) #[true, true, true, true, true, true, true, true, false, true, true, false, false, false, false] rfl rfl (zC HT_.out (by kernel_rfl)) (fun _ _ _ h => h) (Or.inl ⟨by rfl, ?_⟩) ?_ ?_
            rotate_left
            ·intro w'
             go_simp
             with_reducible rfl
            rotate_left
            ·simp only [Act.put, List.setIfInBounds_toArray, List.set_cons_zero, List.set_cons_succ, zi, zj]
             rfl
            refine zO (i := 11) (N := some 42) (v := ?_) (a' := ?_) #[true, true, true, true, true, true, true, true, false, true, true, true, false, false, false] rfl rfl (zC HT_.out (by kernel_rfl)) (fun _ _ _ h => h) (Or.inl ⟨by rfl, ?_⟩) ?_ ?_
            rotate_left
            ·intro w'
             go_simp
             with_reducible rfl
            rotate_left
            ·simp only [Act.put, List.setIfInBounds_toArray, List.set_cons_zero, List.set_cons_succ, zi, zj]
             rfl
            refine jD (i := 8) (N := some 39) (v := ?_) (a' := ?_) #[true, true, true, true, true, true, true, true, true, true, true, true, false, false, false] rfl rfl (qT HT_.out HW_.out (by kernel_rfl)) (fun _ _ _ h => h) (Or.inl ⟨by rfl, ?_⟩) hHeld ?_ ?_
            rotate_left
            ·rintro w' ⟨s0, s1⟩
             go_simp
             with_reducible rfl
            rotate_left
            ·simp only [Act.put, List.setIfInBounds_toArray, List.set_cons_zero, List.set_cons_succ, zi, zj]
             rfl
            refine jD (i := 12) (N := some 43) (v := ?_) (a' := ?_) #[true, true, true, true, true, true, true, true, true, true, true, true, true, false, false] rfl rfl (qT HT_.out HW_.out (by kernel_rfl)) (fun _ _ _ h => h) (Or.inl ⟨by rfl, ?_⟩) hHeld ?_ ?_
            rotate_left
            ·rintro w' ⟨s0, s1⟩
             go_simp
             with_reducible rfl
            rotate_left
            ·simp only [Act.put, List.setIfInBounds_toArray, List.set_cons_zero, List.set_cons_succ, zi, zj]
             rfl
            refine zO (i := 13) (N := some 44) (v := ?_) (a' := ?_) #[true, true, true, true, true, true, true, true, true, true, true, true, true, true, false] rfl rfl (zC HT_.out (by kernel_rfl)) (fun _ _ _ h => h) (Or.inl ⟨by rfl, ?_⟩) ?_ ?_
            rotate_left
            ·intro w'
             go_simp
             with_reducible rfl
            rotate_left
            ·simp only [Act.put, List.setIfInBounds_toArray, List.set_cons_zero, List.set_cons_succ, zi, zj]
             rfl
            refine zO (i := 14) (N := some 45) (v := ?_) (a' := ?_) #[true, true, true, true, true, true, true, true, true, true, true, true, true, true, true] rfl rfl (zC HT_.out (by kernel_rfl)) (fun _ _ _ h => h) (Or.inl ⟨by rfl, ?_⟩) ?_ ?_
            rotate_left
            ·intro w'
             go_simp
             with_reducible rfl
            rotate_left
            ·simp only [Act.put, List.setIfInBounds_toArray, List.set_cons_zero, List.set_cons_succ, zi, zj]
             rfl
            refine vF (jK HT_.out (by kernel_rfl)) ?_
            try go_wp2
            go_roundg k2
            case measure => have := HK1.out; have := HK2.out; omega
            case rel => exact ⟨(x3_1), (wrap64 (x4_1 + 1)), (sqD), H', ⟨by have := HK1.out; have := HK2.out; omega⟩, ⟨sqR HO_3.out⟩, ⟨sqB⟩⟩
           ·rw [if_neg c12] at H
            have c12b0 : ((rd x3_1 x5_2) == (rd l0 x4_1)) = false := beq_eq_false_iff_ne.mpr c12
            have c12b1 : ((rd x3_1 x5_2) != (rd l0 x4_1)) = true := bne_iff_ne.mpr c12
            obtain ⟨y122, hy122⟩ : ∃ y_ : List Int, y_ = (([] : List Int)) := ⟨_, rfl⟩
            replace H : (if x5_2 ≤ (x3_1.length : Int) then ((some (x3_1.drop (x5_2 : Int).toNat : List Int)).bind fun y125 => (if y122.length + y125.length < 17592186044416 then ((some (y122 ++ y125 : List Int)).bind fun y129 => ((some (x3_1.take (x5_2 : Int).toNat : List Int)).bind fun y132 => (if y132.length < 17592186044416 then ((some (y132 ++ [rd l0 x4_1] : List Int)).bind fun y136 => (if y136.length + y129.length < 17592186044416 then (zk.l0 k2 l0 (y136 ++ y129) (wrap64 (x4_1 + 1))) else (none))) else (none)))) else (none))) else (none)) = some r := by first | (rw [hy122]; with_reducible exact H) | (have H2_ := (Option.bind_some _ _).symm.trans H; rw [hy122]; with_reducible exact H2_) | (have H2_ := (Option.bind_some _ _).symm.trans H; with_reducible exact H2_) | with_reducible exact H | (rw [hy122]; exact H) | exact H
            have Ny122 := Aside0.mk hy122
            clear hy122
            have c16b0 := eq_true (of_decide_eq_true sqA : 0 ≤ x5_2)
            by_cases c17 : x5_2 ≤ (x3_1.length : Int)
            ·rw [if_pos c17] at H
             have c17b0 := eq_true c17
             have c17b1 : decide (x5_2 ≤ (x3_1.length : Int)) = true := decide_eq_true c17
             clear c17
             obtain ⟨y125, hy125⟩ : ∃ y_ : List Int, y_ = (x3_1.drop (x5_2 : Int).toNat) := ⟨_, rfl⟩
             replace H : (if y122.length + y125.length < 17592186044416 then ((some (y122 ++ y125 : List Int)).bind fun y129 => ((some (x3_1.take (x5_2 : Int).toNat : List Int)).bind fun y132 => (if y132.length < 17592186044416 then ((some (y132 ++ [rd l0 x4_1] : List Int)).bind fun y136 => (if y136.length + y129.length < 17592186044416 then (zk.l0 k2 l0 (y136 ++ y129) (wrap64 (x4_1 + 1))) else (none))) else (none)))) else (none)) = some r := by first | (rw [hy125]; with_reducible exact H) | (have H2_ := (Option.bind_some _ _).symm.trans H; rw [hy125]; with_reducible exact H2_) | (have H2_ := (Option.bind_some _ _).symm.trans H; with_reducible exact H2_) | with_reducible exact H | (rw [hy125]; exact H) | exact H
             have Ny125 := Aside0.mk hy125
             clear hy125
             by_cases c18 : y122.length + y125.length < 17592186044416
             ·rw [if_pos c18] at H
              have LMc18 := Aside0.mk c18
              clear c18
              obtain ⟨y129, hy129⟩ : ∃ y_ : List Int, y_ = (y122 ++ y125) := ⟨_, rfl⟩
              replace H : ((some (x3_1.take (x5_2 : Int).toNat : List Int)).bind fun y132 => (if y132.length < 17592186044416 then ((some (y132 ++ [rd l0 x4_1] : List Int)).bind fun y136 => (if y136.length + y129.length < 17592186044416 then (zk.l0 k2 l0 (y136 ++ y129) (wrap64 (x4_1 + 1))) else (none))) else (none))) = some r := by first | (rw [hy129]; with_reducible exact H) | (have H2_ := (Option.bind_some _ _).symm.trans H; rw [hy129]; with_reducible exact H2_) | (have H2_ := (Option.bind_some _ _).symm.trans H; with_reducible exact H2_) | with_reducible exact H | (rw [hy129]; exact H) | exact H
              have Ny129 := Aside0.mk hy129
              clear hy129
              have c19b0 := eq_true (of_decide_eq_true sqA : x5_2 ≤ (x3_1.length : Int))
              obtain ⟨y132, hy132⟩ : ∃ y_ : List Int, y_ = (x3_1.take (x5_2 : Int).toNat) := ⟨_, rfl⟩
              replace H : (if y132.length < 17592186044416 then ((some (y132 ++ [rd l0 x4_1] : List Int)).bind fun y136 => (if y136.length + y129.length < 17592186044416 then (zk.l0 k2 l0 (y136 ++ y129) (wrap64 (x4_1 + 1))) else (none))) else (none)) = some r := by first | (rw [hy132]; with_reducible exact H) | (have H2_ := (Option.bind_some _ _).symm.trans H; rw [hy132]; with_reducible exact H2_) | (have H2_ := (Option.bind_some _ _).symm.trans H; with_reducible exact H2_) | with_reducible exact H | (rw [hy132]; exact H) | exact H
              have Ny132 := Aside0.mk hy132
              clear hy132
              by_cases c20 : y132.length < 17592186044416
              ·rw [if_pos c20] at H
               have LMc20 := Aside0.mk c20
               clear c20
               obtain ⟨y136, hy136⟩ : ∃ y_ : List Int, y_ = (y132 ++ [rd l0 x4_1]) := ⟨_, rfl⟩
               replace H : (if y136.length + y129.length < 17592186044416 then (zk.l0 k2 l0 (y136 ++ y129) (wrap64 (x4_1 + 1))) else (none)) = some r := by first | (rw [hy136]; with_reducible exact H) | (have H2_ := (Option.bind_some _ _).symm.trans H; rw [hy136]; with_reducible exact H2_) | (have H2_ := (Option.bind_some _ _).symm.trans H; with_reducible exact H2_) | with_reducible exact H | (rw [hy136]; exact H) | exact H
               have Ny136 := Aside0.mk hy136
               clear hy136
               by_cases c21 : y136.length + y129.length < 17592186044416
               ·rw [if_pos c21] at H
                have LMc21 := Aside0.mk c21
                clear c21
                obtain ⟨y139, hy139⟩ : ∃ y_ : List Int, y_ = (y136 ++ y129) := ⟨_, rfl⟩
                replace H : (zk.l0 k2 l0 y139 (wrap64 (x4_1 + 1))) = some r := by first | (rw [hy139]; with_reducible exact H) | (have H2_ := (Option.bind_some _ _).symm.trans H; rw [hy139]; with_reducible exact H2_) | (have H2_ := (Option.bind_some _ _).symm.trans H; with_reducible exact H2_) | with_reducible exact H | (rw [hy139]; exact H) | exact H
                have Ny139 := Aside0.mk hy139
                clear hy139
                have H' := Aside0.mk H
                clear H
                try go_wp2
                have n0_ := Aside0.mk (Kd.jL HO_3.out)
                have n1_ := Aside0.mk (qg HB.out)
                clear HO_3
                clear HB
                have HO_3 := n0_
                have HB := n1_
                clear n0_ n1_
                obtain ⟨Ao23, co23, eo23⟩ := Kd.zK HO_3.out
                (first | subst eo23 | (injection eo23 with f1_ f2_ f3_; have f4_ := f1_.symm; have f5_ := f3_.symm; clear f1_ f2_ f3_; subst f4_; subst f5_))
                have p118 : 0 ≤ (x5_2 : Int) := of_decide_eq_true sqA
                have q118 : x5_2 < (x3_1.length : Int) := of_decide_eq_true sqA
                obtain ⟨ad118, e118, hx118_0⟩ := Kd.zT (Kd.zg HO_3.out).2.2 x5_2 p118 q118
                cases e118
                replace p118 := eq_true p118
                replace q118 := eq_true q118
                have p119 : 0 ≤ (x4_1 : Int) := of_decide_eq_true sqA
                have q119 : x4_1 < (l0.length : Int) := of_decide_eq_true sqA
                obtain ⟨ad119, e119, hx119_0⟩ := Kd.zT HR0.out x4_1 p119 q119
                have hw119_0 := hx119_0
                cases e119
                replace hx119_0 := (HB.out.cell (World.block_lt_of_cell? w _ hx119_0)).trans hx119_0
                replace p119 := eq_true p119
                replace q119 := eq_true q119
                refine jW (n := 15) (S := fun w' => w'.cell? (ad118.add (x5_2).toNat) = some (.int .i64 (rd x3_1 x5_2)) ∧ w'.cell? (ad119.add (x4_1).toNat) = some (.int .i64 (rd l0 x4_1))) (ds := []) #[false, false, false, false, false, false, false, false, false, false, false, false, false, false, false] (by kernel_rfl) rfl rfl ⟨hx118_0, ((HB.out.cell (World.block_lt_of_cell? w _ hw119_0)).trans hw119_0)⟩ (fun hHeld => ?_); refine ja zk.JH zk.Zz (fun HT_ HW_ => ?_)
                generalize wr.drew = w22 at HO_3 HB hx118_0 hx119_0 hHeld ⊢
                refine zO (i := 0) (N := some 14) (v := ?_) (a' := ?_) #[true, false, false, false, false, false, false, false, false, false, false, false, false, false, false] rfl rfl (zC HT_.out (by kernel_rfl)) (fun _ _ _ h => h) (Or.inl ⟨by rfl, ?_⟩) ?_ ?_
                rotate_left
                ·intro w'
                 go_simp
                 with_reducible rfl
                rotate_left
                ·simp only [Act.put, List.setIfInBounds_toArray, List.set_cons_zero, List.set_cons_succ, zi, zj]
                 rfl
                refine zO (i := 1) (N := some 15) (v := ?_) (a' := ?_) #[true, true, false, false, false, false, false, false, false, false, false, false, false, false, false] rfl rfl (zC HT_.out (by kernel_rfl)) (fun _ _ _ h => h) (Or.inl ⟨by rfl, ?_⟩) ?_ ?_
                rotate_left
                ·intro w'
                 go_simp
                 with_reducible rfl
                rotate_left
                ·simp only [Act.put, List.setIfInBounds_toArray, List.set_cons_zero, List.set_cons_succ, zi, zj]
                 rfl
                refine zO (i := 2) (N := some 16) (v := ?_) (a' := ?_) #[true, true, true, false, false, false, false, false, false, false, false, false, false, false, false] rfl rfl (zC HT_.out (by kernel_rfl)) (fun _ _ _ h => h) (Or.inl ⟨by rfl, ?_⟩) ?_ ?_
                rotate_left
                ·intro w'
                 go_simp
                 with_reducible rfl
                rotate_left
                ·simp only [Act.put, List.setIfInBounds_toArray, List.set_cons_zero, List.set_cons_succ, zi, zj]
                 rfl
                refine zO (i := 3) (N := some 17) (v := ?_) (a' := ?_) #[true, true, true, true, false, false, false, false, false, false, false, false, false, false, false] rfl rfl (zC HT_.out (by kernel_rfl)) (fun _ _ _ h => h) (Or.inl ⟨by rfl, ?_⟩) ?_ ?_
                rotate_left
                ·intro w'
                 go_simp
                 with_reducible rfl
                rotate_left
                ·simp only [Act.put, List.setIfInBounds_toArray, List.set_cons_zero, List.set_cons_succ, zi, zj]
                 rfl
                refine zO (i := 4) (N := some 18) (v := ?_) (a' := ?_) #[true, true, true, true, true, false, false, false, false, false, false, false, false, false, false] rfl rfl (zC HT_.out (by kernel_rfl)) (fun _ _ _ h => h) (Or.inl ⟨by rfl, ?_⟩) ?_ ?_
                rotate_left
                ·intro w'
                 go_simp
                 with_reducible rfl
                rotate_left
                ·simp only [Act.put, List.setIfInBounds_toArray, List.set_cons_zero, List.set_cons_succ, zi, zj]
                 rfl
                refine zO (i := 5) (N := some 19) (v := ?_) (a' := ?_) #[true, true, true, true, true, true, false, false, false, false, false, false, false, false, false] rfl rfl (zC HT_.out (by kernel_rfl)) (fun _ _ _ h => h) (Or.inl ⟨by rfl, ?_⟩) ?_ ?_
                rotate_left
                ·intro w'
                 go_simp
                 with_reducible rfl
                rotate_left
                ·simp only [Act.put, List.setIfInBounds_toArray, List.set_cons_zero, List.set_cons_succ, zi, zj]
                 rfl
                refine zO (i := 6) (N := some 20) (v := ?_) (a' := ?_) #[true, true, true, true, true, true, true, false, false, false, false, false, false, false, false] rfl rfl (zC HT_.out (by kernel_rfl)) (fun _ _ _ h => h) (Or.inl ⟨by rfl, ?_⟩) ?_ ?_
                rotate_left
                ·intro w'
                 go_simp
                 with_reducible rfl
                rotate_left
                ·simp only [Act.put, List.setIfInBounds_toArray, List.set_cons_zero, List.set_cons_succ, zi, zj]
                 rfl
                refine zO (i := 7) (N := some 21) (v := ?_) (a' := ?_) #[true, true, true, true, true, true, true, true, false, false, false, false, false, false, false] rfl rfl (zC HT_.out (by kernel_rfl)) (fun _ _ _ h => h) (Or.inl ⟨by rfl, ?_⟩) ?_ ?_
                rotate_left
                ·intro w'
                 go_simp
                 with_reducible rfl
                rotate_left
                ·simp only [Act.put, List.setIfInBounds_toArray, List.set_cons_zero, List.set_cons_succ, zi, zj]
                 rfl
                refine zO (i := 9) (N := some 23) (v := ?_) (a' := ?_) #[true, true, true, true, true, true, true, true, false, true, false, false, false, false, false] rfl rfl (zC HT_.out (by kernel_rfl)) (fun _ _ _ h => h) (Or.inl ⟨by rfl, ?_⟩) ?_ ?_
                rotate_left
                ·intro w'
                 go_simp
                 with_reducible rfl
                rotate_left
                ·simp only [Act.put, List.setIfInBounds_toArray, List.set_cons_zero, List.set_cons_succ, zi, zj]
                 rfl
                refine zO (i := 10) (N := some 24) (v := ?_) (a' := ?_) #[true, true, true, true, true, true, true, true, false, true, true, false, false, false, false] rfl rfl (zC HT_.out (by kernel_rfl)) (fun _ _ _ h => h) (Or.inl ⟨by rfl, ?_⟩) ?_ ?_
                rotate_left
                ·intro w'
                 go_simp
                 with_reducible rfl
                rotate_left
                ·simp only [Act.put, List.setIfInBounds_toArray, List.set_cons_zero, List.set_cons_succ, zi, zj]
                 rfl
                refine zO (i := 11) (N := some 25) (v := ?_) (a' := ?_) #[true, true, true, true, true, true, true, true, false, true, true, true, false, false, false] rfl rfl (zC HT_.out (by kernel_rfl)) (fun _ _ _ h => h) (Or.inl ⟨by rfl, ?_⟩) ?_ ?_
                rotate_left
                ·intro w'
                 go_simp
                 with_reducible rfl
                rotate_left
                ·simp only [Act.put, List.setIfInBounds_toArray, List.set_cons_zero, List.set_cons_succ, zi, zj]
                 rfl
                refine jD (i := 8) (N := some 22) (v := ?_) (a' := ?_) #[true, true, true, true, true, true, true, true, true, true, true, true, false, false, false] rfl rfl (qT HT_.out HW_.out (by kernel_rfl)) (fun _ _ _ h => h) (Or.inl ⟨by rfl, ?_⟩) hHeld ?_ ?_
                rotate_left
                ·rintro w' ⟨s0, s1⟩
                 go_simp
                 with_reducible rfl
                rotate_left
                ·simp only [Act.put, List.setIfInBounds_toArray, List.set_cons_zero, List.set_cons_succ, zi, zj]
                 rfl
                refine jD (i := 12) (N := some 26) (v := ?_) (a' := ?_) #[true, true, true, true, true, true, true, true, true, true, true, true, true, false, false] rfl rfl (qT HT_.out HW_.out (by kernel_rfl)) (fun _ _ _ h => h) (Or.inl ⟨by rfl, ?_⟩) hHeld ?_ ?_
                rotate_left
                ·rintro w' ⟨s0, s1⟩
                 go_simp
                 with_reducible rfl
                rotate_left
                ·simp only [Act.put, List.setIfInBounds_toArray, List.set_cons_zero, List.set_cons_succ, zi, zj]
                 rfl
                refine zO (i := 13) (N := some 27) (v := ?_) (a' := ?_) #[true, true, true, true, true, true, true, true, true, true, true, true, true, true, false] rfl rfl (zC HT_.out (by kernel_rfl)) (fun _ _ _ h => h) (Or.inl ⟨by rfl, ?_⟩) ?_ ?_
                rotate_left
                ·intro w'
                 go_simp
                 with_reducible rfl
                rotate_left
                ·simp only [Act.put, List.setIfInBounds_toArray, List.set_cons_zero, List.set_cons_succ, zi, zj]
                 rfl
                refine zO (i := 14) (N := some 28) (v := ?_) (a' := ?_) #[true, true, true, true, true, true, true, true, true, true, true, true, true, true, true] rfl rfl (zC HT_.out (by kernel_rfl)) (fun _ _ _ h => h) (Or.inl ⟨by rfl, ?_⟩) ?_ ?_
                rotate_left
                ·intro w'
                 go_simp
                 with_reducible rfl
                rotate_left
                ·simp only [Act.put, List.setIfInBounds_toArray, List.set_cons_zero, List.set_cons_succ, zi, zj]
                 rfl
                refine vF (jK HT_.out (by kernel_rfl)) ?_
                try go_wp2
                have n0_ := Aside0.mk (Kd.jL HO_3.out)
                have n1_ := Aside0.mk (qg HB.out)
                clear HO_3
                clear HB
                have HO_3 := n0_
                have HB := n1_
                clear n0_ n1_
                have p120 : 0 ≤ (x5_2 : Int) := of_decide_eq_true sqA
                have q120 : x5_2 < (x3_1.length : Int) := of_decide_eq_true sqA
                obtain ⟨ad120, e120, hx120_0⟩ := Kd.zT (Kd.zg HO_3.out).2.2 x5_2 p120 q120
                obtain rfl : ad118 = ad120 := (by injection e120)
                replace p120 := eq_true p120
                replace q120 := eq_true q120
                have p121 : 0 ≤ (x4_1 : Int) := of_decide_eq_true sqA
                have q121 : x4_1 < (l0.length : Int) := of_decide_eq_true sqA
                obtain ⟨ad121, e121, hx121_0⟩ := Kd.zT HR0.out x4_1 p121 q121
                have hw121_0 := hx121_0
                obtain rfl : ad119 = ad121 := (by injection e121)
                replace hx121_0 := (HB.out.cell (World.block_lt_of_cell? w _ hx121_0)).trans hx121_0
                replace p121 := eq_true p121
                replace q121 := eq_true q121
                refine jW (n := 15) (S := fun w' => w'.cell? (ad118.add (x5_2).toNat) = some (.int .i64 (rd x3_1 x5_2)) ∧ w'.cell? (ad119.add (x4_1).toNat) = some (.int .i64 (rd l0 x4_1))) (ds := []) #[false, false, false, false, false, false, false, false, false, false, false, false, false, false, false] (by kernel_rfl) rfl rfl ⟨hx120_0, ((HB.out.cell (World.block_lt_of_cell? w _ hw121_0)).trans hw121_0)⟩ (fun hHeld => ?_); refine ja zk.zbk zk.zar (fun HT_ HW_ => ?_)
                generalize w22.drew = w24 at HO_3 HB hx120_0 hx121_0 hHeld ⊢
                refine zO (i := 0) (N := some 31) (v := ?_) (a' := ?_) #[true, false, false, false, false, false, false, false, false, false, false, false, false, false, false] rfl rfl (zC HT_.out (by kernel_rfl)) (fun _ _ _ h => h) (Or.inl ⟨by rfl, ?_⟩) ?_ ?_
                rotate_left
                ·intro w'
                 go_simp
                 with_reducible rfl
                rotate_left
                ·simp only [Act.put, List.setIfInBounds_toArray, List.set_cons_zero, List.set_cons_succ, zi, zj]
                 rfl
                refine zO (i := 1) (N := some 32) (v := ?_) (a' := ?_) #[true, true, false, false, false, false, false, false, false, false, false, false, false, false, false] rfl rfl (zC HT_.out (by kernel_rfl)) (fun _ _ _ h => h) (Or.inl ⟨by rfl, ?_⟩) ?_ ?_
                rotate_left
                ·intro w'
                 go_simp
                 with_reducible rfl
                rotate_left
                ·simp only [Act.put, List.setIfInBounds_toArray, List.set_cons_zero, List.set_cons_succ, zi, zj]
                 rfl
                refine zO (i := 2) (N := some 33) (v := ?_) (a' := ?_) #[true, true, true, false, false, false, false, false, false, false, false, false, false, false, false] rfl rfl (zC HT_.out (by kernel_rfl)) (fun _ _ _ h => h) (Or.inl ⟨by rfl, ?_⟩) ?_ ?_
                rotate_left
                ·intro w'
                 go_simp
                 with_reducible rfl
                rotate_left
                ·simp only [Act.put, List.setIfInBounds_toArray, List.set_cons_zero, List.set_cons_succ, zi, zj]
                 rfl
                refine zO (i := 3) (N := some 34) (v := ?_) (a' := ?_) #[true, true, true, true, false, false, false, false, false, false, false, false, false, false, false] rfl rfl (zC HT_.out (by kernel_rfl)) (fun _ _ _ h => h) (Or.inl ⟨by rfl, ?_⟩) ?_ ?_
                rotate_left
                ·intro w'
                 go_simp
                 with_reducible rfl
                rotate_left
                ·simp only [Act.put, List.setIfInBounds_toArray, List.set_cons_zero, List.set_cons_succ, zi, zj]
                 rfl
                refine zO (i := 4) (N := some 35) (v := ?_) (a' := ?_) #[true, true, true, true, true, false, false, false, false, false, false, false, false, false, false] rfl rfl (zC HT_.out (by kernel_rfl)) (fun _ _ _ h => h) (Or.inl ⟨by rfl, ?_⟩) ?_ ?_
                rotate_left
                ·intro w'
                 go_simp
                 with_reducible rfl
                rotate_left
                ·simp only [Act.put, List.setIfInBounds_toArray, List.set_cons_zero, List.set_cons_succ, zi, zj]
                 rfl
                refine zO (i := 5) (N := some 36) (v := ?_) (a' := ?_) #[true, true, true, true, true, true, false, false, false, false, false, false, false, false, false] rfl rfl (zC HT_.out (by kernel_rfl)) (fun _ _ _ h => h) (Or.inl ⟨by rfl, ?_⟩) ?_ ?_
                rotate_left
                ·intro w'
                 go_simp
                 with_reducible rfl
                rotate_left
                ·simp only [Act.put, List.setIfInBounds_toArray, List.set_cons_zero, List.set_cons_succ, zi, zj]
                 rfl
                refine zO (i := 6) (N := some 37) (v := ?_) (a' := ?_) #[true, true, true, true, true, true, true, false, false, false, false, false, false, false, false] rfl rfl (zC HT_.out (by kernel_rfl)) (fun _ _ _ h => h) (Or.inl ⟨by rfl, ?_⟩) ?_ ?_
                rotate_left
                ·intro w'
                 go_simp
                 with_reducible rfl
                rotate_left
                ·simp only [Act.put, List.setIfInBounds_toArray, List.set_cons_zero, List.set_cons_succ, zi, zj]
                 rfl
                refine zO (i := 7) (N := some 38) (v := ?_) (a' := ?_) #[true, true, true, true, true, true, true, true, false, false, false, false, false, false, false] rfl rfl (zC HT_.out (by kernel_rfl)) (fun _ _ _ h => h) (Or.inl ⟨by rfl, ?_⟩) ?_ ?_
                rotate_left
                ·intro w'
                 go_simp
                 with_reducible rfl
                rotate_left
                ·simp only [Act.put, List.setIfInBounds_toArray, List.set_cons_zero, List.set_cons_succ, zi, zj]
                 rfl
                refine zO (i := 9) (N := some 40) (v := ?_) (a' := ?_) #[true, true, true, true, true, true, true, true, false, true, false, false, false, false, false] rfl rfl (zC HT_.out (by kernel_rfl)) (fun _ _ _ h => h) (Or.inl ⟨by rfl, ?_⟩) ?_ ?_
                rotate_left
                ·intro w'
                 go_simp
                 with_reducible rfl
                rotate_left
                ·simp only [Act.put, List.setIfInBounds_toArray, List.set_cons_zero, List.set_cons_succ, zi, zj]
                 rfl
                refine zO (i := 10) (N := some 41) (v := ?_) (a' := ?_) #[true, true, true, true, true, true, true, true, false, true, true, false, false, false, false] rfl rfl (zC HT_.out (by kernel_rfl)) (fun _ _ _ h => h) (Or.inl ⟨by rfl, ?_⟩) ?_ ?_
                rotate_left
                ·intro w'
                 go_simp
                 with_reducible rfl
                rotate_left
                ·simp only [Act.put, List.setIfInBounds_toArray, List.set_cons_zero, List.set_cons_succ, zi, zj]
                 rfl
                refine zO (i := 11) (N := some 42) (v := ?_) (a' := ?_) #[true, true, true, true, true, true, true, true, false, true, true, true, false, false, false] rfl rfl (zC HT_.out (by kernel_rfl)) (fun _ _ _ h => h) (Or.inl ⟨by rfl, ?_⟩) ?_ ?_
                rotate_left
                ·intro w'
                 go_simp
                 with_reducible rfl
                rotate_left
                ·simp only [Act.put, List.setIfInBounds_toArray, List.set_cons_zero, List.set_cons_succ, zi, zj]
                 rfl
                refine jD (i := 8) (N := some 39) (v := ?_) (a' := ?_) #[true, true, true, true, true, true, true, true, true, true, true, true, false, false, false] rfl rfl (qT HT_.out HW_.out (by kernel_rfl)) (fun _ _ _ h => h) (Or.inl ⟨by rfl, ?_⟩) hHeld ?_ ?_
                rotate_left
                ·rintro w' ⟨s0, s1⟩
                 go_simp
                 with_reducible rfl
                rotate_left
                ·simp only [Act.put, List.setIfInBounds_toArray, List.set_cons_zero, List.set_cons_succ, zi, zj]
                 rfl
                refine jD (i := 12) (N := some 43) (v := ?_) (a' := ?_) #[true, true, true, true, true, true, true, true, true, true, true, true, true, false, false] rfl rfl (qT HT_.out HW_.out (by kernel_rfl)) (fun _ _ _ h => h) (Or.inl ⟨by rfl, ?_⟩) hHeld ?_ ?_
                rotate_left
                ·rintro w' ⟨s0, s1⟩
                 go_simp
                 with_reducible rfl
                rotate_left
                ·simp only [Act.put, List.setIfInBounds_toArray, List.set_cons_zero, List.set_cons_succ, zi, zj]
                 rfl
                refine zO (i := 13) (N := some 44) (v := ?_) (a' := ?_) #[true, true, true, true, true, true, true, true, true, true, true, true, true, true, false] rfl rfl (zC HT_.out (by kernel_rfl)) (fun _ _ _ h => h) (Or.inl ⟨by rfl, ?_⟩) ?_ ?_
                rotate_left
                ·intro w'
                 go_simp
                 with_reducible rfl
                rotate_left
                ·simp only [Act.put, List.setIfInBounds_toArray, List.set_cons_zero, List.set_cons_succ, zi, zj]
                 rfl
                refine zO (i := 14) (N := some 45) (v := ?_) (a' := ?_) #[true, true, true, true, true, true, true, true, true, true, true, true, true, true, true] rfl rfl (zC HT_.out (by kernel_rfl)) (fun _ _ _ h => h) (Or.inl ⟨by rfl, ?_⟩) ?_ ?_
                rotate_left
                ·intro w'
                 go_simp
                 with_reducible rfl
                rotate_left
                ·simp only [Act.put, List.setIfInBounds_toArray, List.set_cons_zero, List.set_cons_succ, zi, zj]
                 rfl
                refine vF (jK HT_.out (by kernel_rfl)) ?_
                try go_wp2_with (first | ((with_reducible refine zm (N := 46) rfl ?_); refine Kd.jy (Kd.int .i64) _ 3 ?hg (N := 46) ?hd (xs := ([] : List Int)) (inner := []) (ok := fun _ => True) (okp := fun _ => True) ?hr ?hp (fun _ hk => hk) trivial (Below.refl _ _) (Nat.le_refl _) (by simp) ?_; (case hd => rfl); (case hg => rfl); (case hr => exact sqG); (case hp => exact (qK.none _ _)); intro v123 w25 ho26 hb hg_ hnew_; clear hg_ hnew_; (first | rw [← Ny122.out] at ho26 | (simp only [Int.reduceToNat] at ho26; rw [← Ny122.out] at ho26)); have n0_ := Aside0.mk (Kd.zw (sqR HO_3.out) (Kd.zQ ho26) hb); have n1_ := Aside0.mk (Kd.zD (Kd.zP ho26 (Kd.qt (sqR HO_3.out))) (zh sqB)); have n2_ := Aside0.mk (zc sqB hb); clear HO_3; clear HB; have HO_3 := n0_; have HO124 := n1_; have HB := n2_; clear n0_ n1_ n2_; clear hb ho26; have q27 : (x5_2 : Int) ≤ ((x3_1.length : Int) : Int) := of_decide_eq_true sqA; obtain ⟨i027, hi027, _, hsz27, _⟩ := info_parts jH; have hroom27 : x3_1.length ≤ co23 := (Kd.zg HO_3.out).2.1; have hC27 : Kd.C (Kd.int .i64) _ (some ad118) x3_1.length x3_1 := (Kd.zg HO_3.out).2.2; have q027 : (0 : Int) ≤ (x5_2 : Int) := of_decide_eq_true sqA; have hcut27 := Vq (P := Tryz.prog) 22 3 .i64 Tryz.underlying22 hi027 1 hsz27 (some ad118) x3_1.length co23 x5_2 q027 q27; have hr27 := Kd.Vk (m := (x5_2 : Int).toNat) (c := co23) hC27 (by omega) hroom27; obtain ⟨A27, hA27⟩ : ∃ A1, A1 = (if co23 = (x5_2 : Int).toNat then (some ad118) else ((some ad118) : Option Addr).map (·.add ((x5_2 : Int).toNat * 1))) := ⟨_, rfl⟩; obtain ⟨c27, hc27⟩ : ∃ c1, c1 = co23 - (x5_2 : Int).toNat := ⟨_, rfl⟩; have hy27 : y125.length = x3_1.length - (x5_2 : Int).toNat := (by rw [Ny125.out, List.length_drop] <;> omega); rw [show (x3_1).drop (x5_2 : Int).toNat = y125 from Ny125.out.symm] at hr27; replace hr27 : Kd.C (Kd.int .i64) _ A27 y125.length y125 := (by rw [hA27]; exact hr27); rw [← hy27, ← hA27, ← hc27] at hcut27; have HR128 := Aside0.mk hr27; have HC128 := Aside0.mk (show y125.length ≤ c27 from by rw [hy27, hc27]; exact Nat.sub_le_sub_right hroom27 _); clear hr27 hC27 hroom27 hi027 hsz27 hc27; have KY27 := Aside0.mk hy27; have KA27 := Aside0.mk hA27; clear hy27 hA27; have KL27 := Aside0.mk (show (x5_2 : Int).toNat ≤ x3_1.length from by omega); replace q27 := eq_true q27) | ((with_reducible refine qB (b := .append) (xs := #[.tmp 46, .tmp 49]) rfl ?_); at_builtin; refine Kd.yH (Kd.int .i64) (w0 := w) w.heap.size rfl (.tmp 46) (.tmp 49) 22 3 (.int .i64 0) 8 rfl Tryz.underlying22 jH rfl (by decide) (by omega) v123 y122 y125 _ _ _ (fun k_ => some k_ ≠ (.slice (some ad118) x3_1.length co23 : Value).ownBlock) (fun _ => False) rfl rfl ?aO ?aR (fun _ _ h => h) (fun _ h => h.elim) ?aF ?aB ?aS ?aL ?_; (case aR => exact sqC (by repeat (first | (with_reducible exact HR128.out) | (with_reducible refine Kd.Vc ?_ _) | (with_reducible refine Kd.Zr ?_ _) | (with_reducible refine Kd.Ze ?_) | exact HR128.out))); (case aB => exact sqB); (case aF => exact (fun k_ hk => Kd.yG (Kd.qt (sqR HO_3.out)) k_ hk)); (case aO => exact (by refine sqR ?_; exact Kd.zn HO124.out (fun _ hk => hk.2))); (case aS => exact (zh sqB)); (case aL => have := LMc18.out; omega); intro v130 w28 ho hb hg hat; rw [← Ny129.out] at ho; have n0_ := Aside0.mk (Kd.vm (ok := (fun _ => True)) (sqR HO_3.out) hg hat); have n1_ := Aside0.mk (hb); have n2_ := Aside0.mk ((show Kd.C (Kd.int .i64) w28 A27 y125.length y125 from by rw [Ny125.out, KA27.out]; exact Kd.Vk (m := (x5_2 : Int).toNat) (c := co23) ((Kd.zg (Kd.vm (ok := (fun _ => True)) (sqR HO_3.out) hg hat)).2.2) KL27.out ((Kd.zg (Kd.vm (ok := (fun _ => True)) (sqR HO_3.out) hg hat)).2.1))); have n3_ := Aside0.mk (ho); clear HO_3; clear HB; clear HR128; clear HO124; have HO_3 := n0_; have HB := n1_; have HR128 := n2_; have HO131 := n3_; clear n0_ n1_ n2_ n3_; clear ho hb hg hat))
                have n0_ := Aside0.mk (Kd.jL HO_3.out)
                have n1_ := Aside0.mk (Kd.jL HO131.out)
                have n2_ := Aside0.mk (Kd.Ze HR128.out)
                have n3_ := Aside0.mk (qg HB.out)
                clear HO_3
                clear HO131
                clear HR128
                clear HB
                have HO_3 := n0_
                have HO131 := n1_
                have HR128 := n2_
                have HB := n3_
                clear n0_ n1_ n2_ n3_
                have q30 : (x5_2 : Int) ≤ ((x3_1.length : Int) : Int) := of_decide_eq_true sqA
                obtain ⟨i030, hi030, _, hsz30, _⟩ := info_parts jH
                have hcut30 := zas (P := Tryz.prog) 22 3 .i64 Tryz.underlying22 hi030 (some ad118) x3_1.length co23 x5_2 (of_decide_eq_true sqA) q30 (Kd.zg HO_3.out).2.1
                have hr30 := Kd.zae (m := (x5_2 : Int).toNat) HO_3.out (by omega)
                have hy30 : y132.length = (x5_2 : Int).toNat := (by rw [Ny132.out, List.length_take]; omega)
                rw [← Ny132.out] at hr30
                rw [← hy30] at hr30 hcut30
                clear hy30 hi030 hsz30 HO_3
                have HO134 := Aside0.mk hr30
                clear hr30
                replace q30 := eq_true q30
                have p135 : 0 ≤ (x4_1 : Int) := of_decide_eq_true sqA
                have q135 : x4_1 < (l0.length : Int) := of_decide_eq_true sqA
                obtain ⟨ad135, e135, hx135_0⟩ := Kd.zT HR0.out x4_1 p135 q135
                have hw135_0 := hx135_0
                obtain rfl : ad119 = ad135 := (by injection e135)
                replace hx135_0 := (HB.out.cell (World.block_lt_of_cell? w _ hx135_0)).trans hx135_0
                replace p135 := eq_true p135
                replace q135 := eq_true q135
                refine jW (n := 12) (S := fun w' => w'.cell? (ad119.add (x4_1).toNat) = some (.int .i64 (rd l0 x4_1))) (ds := []) #[false, false, false, false, false, false, false, false, false, false, false, false] (by kernel_rfl) rfl rfl (((HB.out.cell (World.block_lt_of_cell? w _ hw135_0)).trans hw135_0)) (fun hHeld => ?_); refine ja zk.za8 zk.zaD (fun HT_ HW_ => ?_)
                generalize w28.drew = w29 at HO_3 HO131 HR128 HB HO134 hx135_0 hHeld ⊢
                refine zO (i := 0) (N := some 51) (v := ?_) (a' := ?_) #[true, false, false, false, false, false, false, false, false, false, false, false] rfl rfl (zC HT_.out (by kernel_rfl)) (fun _ _ _ h => h) (Or.inl ⟨by rfl, ?_⟩) ?_ ?_
                rotate_left
                ·intro w'
                 go_simp
                 with_reducible rfl
                rotate_left
                ·simp only [Act.put, List.setIfInBounds_toArray, List.set_cons_zero, List.set_cons_succ, zi, zj]
                 rfl
                refine zO (i := 1) (N := some 52) (v := ?_) (a' := ?_) #[true, true, false, false, false, false, false, false, false, false, false, false] rfl rfl (zC HT_.out (by kernel_rfl)) (fun _ _ _ h => h) (Or.inl ⟨by rfl, ?_⟩) ?_ ?_
                rotate_left
                ·intro w'
                 go_simp
                 with_reducible rfl
                rotate_left
                ·simp only [Act.put, List.setIfInBounds_toArray, List.set_cons_zero, List.set_cons_succ, zi, zj]
                 rfl
                refine zO (i := 2) (N := some 53) (v := ?_) (a' := ?_) #[true, true, true, false, false, false, false, false, false, false, false, false] rfl rfl (zC HT_.out (by kernel_rfl)) (fun _ _ _ h => h) (Or.inl ⟨by rfl, ?_⟩) ?_ ?_
                rotate_left
                ·intro w'
                 go_simp
                 with_reducible rfl
                rotate_left
                ·simp only [Act.put, List.setIfInBounds_toArray, List.set_cons_zero, List.set_cons_succ, zi, zj]
                 rfl
                refine zO (i := 3) (N := some 54) (v := ?_) (a' := ?_) #[true, true, true, true, false, false, false, false, false, false, false, false] rfl rfl (zC HT_.out (by kernel_rfl)) (fun _ _ _ h => h) (Or.inl ⟨by rfl, ?_⟩) ?_ ?_
                rotate_left
                ·intro w'
                 go_simp
                 with_reducible rfl
                rotate_left
                ·simp only [Act.put, List.setIfInBounds_toArray, List.set_cons_zero, List.set_cons_succ, zi, zj]
                 rfl
                refine zO (i := 4) (N := some 55) (v := ?_) (a' := ?_) #[true, true, true, true, true, false, false, false, false, false, false, false] rfl rfl (zC HT_.out (by kernel_rfl)) (fun _ _ _ h => h) (Or.inl ⟨by rfl, ?_⟩) ?_ ?_
                rotate_left
                ·intro w'
                 go_simp
                 with_reducible rfl
                rotate_left
                ·simp only [Act.put, List.setIfInBounds_toArray, List.set_cons_zero, List.set_cons_succ, zi, zj]
                 rfl
                refine zO (i := 5) (N := some 56) (v := ?_) (a' := ?_) #[true, true, true, true, true, true, false, false, false, false, false, false] rfl rfl (zC HT_.out (by kernel_rfl)) (fun _ _ _ h => h) (Or.inl ⟨by rfl, ?_⟩) ?_ ?_
                rotate_left
                ·intro w'
                 go_simp
                 with_reducible rfl
                rotate_left
                ·simp only [Act.put, List.setIfInBounds_toArray, List.set_cons_zero, List.set_cons_succ, zi, zj]
                 rfl
                refine zO (i := 9) (N := some 60) (v := ?_) (a' := ?_) #[true, true, true, true, true, true, false, false, false, true, false, false] rfl rfl (zC HT_.out (by kernel_rfl)) (fun _ _ _ h => h) (Or.inl ⟨by rfl, ?_⟩) ?_ ?_
                rotate_left
                ·intro w'
                 go_simp
                 with_reducible rfl
                rotate_left
                ·simp only [Act.put, List.setIfInBounds_toArray, List.set_cons_zero, List.set_cons_succ, zi, zj]
                 rfl
                refine jD (i := 6) (N := some 57) (v := ?_) (a' := ?_) #[true, true, true, true, true, true, true, false, false, true, false, false] rfl rfl (qT HT_.out HW_.out (by kernel_rfl)) (fun _ _ _ h => h) (Or.inl ⟨by rfl, ?_⟩) hHeld ?_ ?_
                rotate_left
                ·intro w' s0
                 go_simp
                 with_reducible rfl
                rotate_left
                ·simp only [Act.put, List.setIfInBounds_toArray, List.set_cons_zero, List.set_cons_succ, zi, zj]
                 rfl
                refine yT (i := 7) (N := some 58) #[true, true, true, true, true, true, true, true, false, true, false, false] rfl rfl (j7 HT_.out (by kernel_rfl)) (by decide) (fun K hK => ?_)
                refine zaj (w1 := ?_) (v := ?_) (by rfl) rfl ?_ ?_
                rotate_left 2
                ·go_simp
                 constructor
                 ·rfl
                 ·rfl
                refine hK.out _ _ ((World.cell?_alloc_lt _ _ _ (World.block_lt_of_cell? _ _ (((HB.out.cell (World.block_lt_of_cell? w _ hw135_0)).trans hw135_0)))).trans (((HB.out.cell (World.block_lt_of_cell? w _ hw135_0)).trans hw135_0))) (fun hHeld => ?_)
                clear hK K
                refine vG (a' := ?_) ?_ ?_
                rotate_left
                ·show Act.put _ (some 58) _ = _
                 simp only [Act.put, List.setIfInBounds_toArray, List.set_cons_zero, List.set_cons_succ, zi, zj]
                 rfl
                refine yT (i := 8) (N := some 59) #[true, true, true, true, true, true, true, true, true, true, false, false] rfl rfl (j7 HT_.out (by kernel_rfl)) (by decide) (fun K hK => ?_)
                refine Kd.ZA (Kd.int .i64) (w0 := w) w.heap.size (by rfl) (.tmp 53) (.tmp 58) 22 3 (.int .i64 0) 8 rfl Tryz.underlying22 jH rfl (by decide) (by omega) (.slice (some ad118) y132.length co23) y132 (rd l0 x4_1) [.int .i64 (rd l0 x4_1)] (fun k_ => some k_ ≠ (v130 : Value).ownBlock) (fun _ => False) rfl rfl ?aP (fun _ hk => hk.elim) ?aF ?aO ?aB ?aS ?aL ?_
                (case aP => exact rfl)
                (case aB => exact sqB)
                (case aF => exact (fun k_ hk => Kd.yG (Kd.qt (sqR HO131.out)) k_ hk))
                (case aO => exact (by refine sqR ?_; exact Kd.zn HO134.out (fun _ hk => hk.2)))
                (case aS => exact (zh sqB))
                (case aL => have := LMc20.out; omega)
                intro v137 w31 ho hb hg hat
                rw [← Ny136.out] at ho
                have n0_ := Aside0.mk (Kd.vm (ok := (fun _ => True)) (by refine sqR ?_; exact Kd.zn HO131.out (fun _ hk => ⟨trivial, by first | exact hk | exact fun h_ => hk (h_.trans ((fun (A : Option Addr) (x y c : Nat) => (by cases A <;> rfl : (Value.slice A x c).ownBlock = (Value.slice A y c).ownBlock)) _ _ _ _))⟩)) hg hat)
                have n1_ := Aside0.mk (hb)
                have n2_ := Aside0.mk (ho)
                clear HO131
                clear HB
                clear HO134
                have HO131 := n0_
                have HB := n1_
                have HO138 := n2_
                clear n0_ n1_ n2_
                clear ho hb hg hat
                obtain ⟨Ao33, co33, eo33⟩ := Kd.zK HO131.out
                (first | subst eo33 | (injection eo33 with f1_ f2_ f3_; have f4_ := f1_.symm; have f5_ := f3_.symm; clear f1_ f2_ f3_; subst f4_; subst f5_))
                refine hK.out _ _ (((HB.out.cell (World.block_lt_of_cell? w _ hw135_0)).trans hw135_0)) (fun hHeld => ?_)
                clear hK K
                refine vG (a' := ?_) ?_ ?_
                rotate_left
                ·show Act.put _ (some 59) _ = _
                 simp only [Act.put, List.setIfInBounds_toArray, List.set_cons_zero, List.set_cons_succ, zi, zj]
                 rfl
                refine yT (i := 10) (N := some 61) #[true, true, true, true, true, true, true, true, true, true, true, false] rfl rfl (j7 HT_.out (by kernel_rfl)) (by decide) (fun K hK => ?_)
                refine Kd.yq (Kd.int .i64) (w0 := w) w.heap.size (by rfl) (.tmp 59) (.tmp 60) 22 3 (.int .i64 0) 8 rfl Tryz.underlying22 jH rfl (by decide) (by omega) v137 y136 y129 _ _ _ (fun k_ => some k_ ≠ (.slice Ao33 y129.length co33 : Value).ownBlock) (fun _ => False) rfl rfl ?aO ?aR (fun _ _ h => h) (fun _ h => h.elim) ?aF ?aB ?aS ?aL ?_
                (case aR => exact sqC (Kd.zg HO131.out).2.2)
                (case aB => exact sqB)
                (case aF => exact (fun k_ hk => Kd.yG (Kd.qt (sqR HO131.out)) k_ hk))
                (case aO => exact (sqR HO138.out))
                (case aS => exact (zh sqB))
                (case aL => have := LMc21.out; omega)
                intro v140 w32 ho hb hg hat
                rw [← Ny139.out] at ho
                have n0_ := Aside0.mk (Kd.vm (ok := (fun _ => True)) (sqR HO131.out) hg hat)
                have n1_ := Aside0.mk (hb)
                have n2_ := Aside0.mk (ho)
                clear HO131
                clear HB
                clear HO138
                have HO131 := n0_
                have HB := n1_
                have HO141 := n2_
                clear n0_ n1_ n2_
                clear ho hb hg hat
                refine hK.out _ _ (((HB.out.cell (World.block_lt_of_cell? w _ hw135_0)).trans hw135_0)) (fun hHeld => ?_)
                clear hK K
                refine vG (a' := ?_) ?_ ?_
                rotate_left
                ·show Act.put _ (some 61) _ = _
                 simp only [Act.put, List.setIfInBounds_toArray, List.set_cons_zero, List.set_cons_succ, zi, zj]
                 rfl
                refine zO (i := 11) (N := some 3) (v := ?_) (a' := ?_) #[true, true, true, true, true, true, true, true, true, true, true, true] rfl rfl (zC HT_.out (by kernel_rfl)) (fun _ _ _ h => h) (Or.inl ⟨by rfl, ?_⟩) ?_ ?_
                rotate_left
                ·intro w'
                 go_simp
                 with_reducible rfl
                rotate_left
                ·simp only [Act.put, List.setIfInBounds_toArray, List.set_cons_zero, List.set_cons_succ, zi, zj]
                 rfl
                refine vF (jK HT_.out (by kernel_rfl)) ?_
                try go_wp2
                go_roundg k2
                case measure => have := HK1.out; have := HK2.out; omega
                case rel => exact ⟨(y139), (wrap64 (x4_1 + 1)), (sqD), H', ⟨by have := HK1.out; have := HK2.out; omega⟩, ⟨by refine sqR ?_; exact Kd.zn HO141.out (fun _ hk => trivial)⟩, ⟨sqB⟩⟩
               ·rw [if_neg c21] at H
                exact absurd H (by simp)
              ·rw [if_neg c20] at H
               exact absurd H (by simp)
             ·rw [if_neg c18] at H
              exact absurd H (by simp)
            ·rw [if_neg c17] at H
             exact absurd H (by simp)
         ·rw [if_neg c8] at H
          exact absurd H (by simp)
        ·rw [if_neg c7] at H
         exact absurd H (by simp)
       ·rw [if_neg c6] at H
        exact absurd H (by simp)
      ·rw [if_neg c5] at H
       have c5b0 : decide (x5_2 < (x3_1.length : Int)) = false := decide_eq_false c5
       clear c5
       obtain ⟨y142, hy142⟩ : ∃ y_ : List Int, y_ = (([] : List Int)) := ⟨_, rfl⟩
       replace H : (if 0 ≤ x5_2 then (if x5_2 ≤ (x3_1.length : Int) then ((some (x3_1.drop (x5_2 : Int).toNat : List Int)).bind fun y145 => (if y142.length + y145.length < 17592186044416 then ((some (y142 ++ y145 : List Int)).bind fun y149 => ((some (x3_1.take (x5_2 : Int).toNat : List Int)).bind fun y152 => (if 0 ≤ x4_1 then (if x4_1 < (l0.length : Int) then (if y152.length < 17592186044416 then ((some (y152 ++ [rd l0 x4_1] : List Int)).bind fun y156 => (if y156.length + y149.length < 17592186044416 then (zk.l0 k2 l0 (y156 ++ y149) (wrap64 (x4_1 + 1))) else (none))) else (none)) else (none)) else (none)))) else (none))) else (none)) else (none)) = some r := by first | (rw [hy142]; with_reducible exact H) | (have H2_ := (Option.bind_some _ _).symm.trans H; rw [hy142]; with_reducible exact H2_) | (have H2_ := (Option.bind_some _ _).symm.trans H; with_reducible exact H2_) | with_reducible exact H | (rw [hy142]; exact H) | exact H
       have Ny142 := Aside0.mk hy142
       clear hy142
       by_cases c34 : 0 ≤ x5_2
       ·rw [if_pos c34] at H
        have c34b0 := eq_true c34
        have c34b1 : decide (0 ≤ x5_2) = true := decide_eq_true c34
        clear c34
        by_cases c35 : x5_2 ≤ (x3_1.length : Int)
        ·rw [if_pos c35] at H
         have c35b0 := eq_true c35
         have c35b1 : decide (x5_2 ≤ (x3_1.length : Int)) = true := decide_eq_true c35
         clear c35
         obtain ⟨y145, hy145⟩ : ∃ y_ : List Int, y_ = (x3_1.drop (x5_2 : Int).toNat) := ⟨_, rfl⟩
         replace H : (if y142.length + y145.length < 17592186044416 then ((some (y142 ++ y145 : List Int)).bind fun y149 => ((some (x3_1.take (x5_2 : Int).toNat : List Int)).bind fun y152 => (if 0 ≤ x4_1 then (if x4_1 < (l0.length : Int) then (if y152.length < 17592186044416 then ((some (y152 ++ [rd l0 x4_1] : List Int)).bind fun y156 => (if y156.length + y149.length < 17592186044416 then (zk.l0 k2 l0 (y156 ++ y149) (wrap64 (x4_1 + 1))) else (none))) else (none)) else (none)) else (none)))) else (none)) = some r := by first | (rw [hy145]; with_reducible exact H) | (have H2_ := (Option.bind_some _ _).symm.trans H; rw [hy145]; with_reducible exact H2_) | (have H2_ := (Option.bind_some _ _).symm.trans H; with_reducible exact H2_) | with_reducible exact H | (rw [hy145]; exact H) | exact H
         have Ny145 := Aside0.mk hy145
         clear hy145
         by_cases c36 : y142.length + y145.length < 17592186044416
         ·rw [if_pos c36] at H
          have LMc36 := Aside0.mk c36
          clear c36
          obtain ⟨y149, hy149⟩ : ∃ y_ : List Int, y_ = (y142 ++ y145) := ⟨_, rfl⟩
          replace H : ((some (x3_1.take (x5_2 : Int).toNat : List Int)).bind fun y152 => (if 0 ≤ x4_1 then (if x4_1 < (l0.length : Int) then (if y152.length < 17592186044416 then ((some (y152 ++ [rd l0 x4_1] : List Int)).bind fun y156 => (if y156.length + y149.length < 17592186044416 then (zk.l0 k2 l0 (y156 ++ y149) (wrap64 (x4_1 + 1))) else (none))) else (none)) else (none)) else (none))) = some r := by first | (rw [hy149]; with_reducible exact H) | (have H2_ := (Option.bind_some _ _).symm.trans H; rw [hy149]; with_reducible exact H2_) | (have H2_ := (Option.bind_some _ _).symm.trans H; with_reducible exact H2_) | with_reducible exact H | (rw [hy149]; exact H) | exact H
          have Ny149 := Aside0.mk hy149
          clear hy149
          have c37b0 := eq_true (of_decide_eq_true sqA : x5_2 ≤ (x3_1.length : Int))
          obtain ⟨y152, hy152⟩ : ∃ y_ : List Int, y_ = (x3_1.take (x5_2 : Int).toNat) := ⟨_, rfl⟩
          replace H : (if 0 ≤ x4_1 then (if x4_1 < (l0.length : Int) then (if y152.length < 17592186044416 then ((some (y152 ++ [rd l0 x4_1] : List Int)).bind fun y156 => (if y156.length + y149.length < 17592186044416 then (zk.l0 k2 l0 (y156 ++ y149) (wrap64 (x4_1 + 1))) else (none))) else (none)) else (none)) else (none)) = some r := by first | (rw [hy152]; with_reducible exact H) | (have H2_ := (Option.bind_some _ _).symm.trans H; rw [hy152]; with_reducible exact H2_) | (have H2_ := (Option.bind_some _ _).symm.trans H; with_reducible exact H2_) | with_reducible exact H | (rw [hy152]; exact H) | exact H
          have Ny152 := Aside0.mk hy152
          clear hy152
          by_cases c38 : 0 ≤ x4_1
          ·rw [if_pos c38] at H
           have c38b0 : decide (0 ≤ x4_1) = true := decide_eq_true c38
           clear c38
           by_cases c39 : x4_1 < (l0.length : Int)
           ·rw [if_pos c39] at H
            have c39b0 : decide (x4_1 < (l0.length : Int)) = true := decide_eq_true c39
            clear c39
            by_cases c40 : y152.length < 17592186044416
            ·rw [if_pos c40] at H
             have LMc40 := Aside0.mk c40
             clear c40
             obtain ⟨y156, hy156⟩ : ∃ y_ : List Int, y_ = (y152 ++ [rd l0 x4_1]) := ⟨_, rfl⟩
             replace H : (if y156.length + y149.length < 17592186044416 then (zk.l0 k2 l0 (y156 ++ y149) (wrap64 (x4_1 + 1))) else (none)) = some r := by first | (rw [hy156]; with_reducible exact H) | (have H2_ := (Option.bind_some _ _).symm.trans H; rw [hy156]; with_reducible exact H2_) | (have H2_ := (Option.bind_some _ _).symm.trans H; with_reducible exact H2_) | with_reducible exact H | (rw [hy156]; exact H) | exact H
             have Ny156 := Aside0.mk hy156
             clear hy156
             by_cases c41 : y156.length + y149.length < 17592186044416
             ·rw [if_pos c41] at H
              have LMc41 := Aside0.mk c41
              clear c41
              obtain ⟨y159, hy159⟩ : ∃ y_ : List Int, y_ = (y156 ++ y149) := ⟨_, rfl⟩
              replace H : (zk.l0 k2 l0 y159 (wrap64 (x4_1 + 1))) = some r := by first | (rw [hy159]; with_reducible exact H) | (have H2_ := (Option.bind_some _ _).symm.trans H; rw [hy159]; with_reducible exact H2_) | (have H2_ := (Option.bind_some _ _).symm.trans H; with_reducible exact H2_) | with_reducible exact H | (rw [hy159]; exact H) | exact H
              have Ny159 := Aside0.mk hy159
              clear hy159
              have H' := Aside0.mk H
              clear H
              try go_wp2
              have n0_ := Aside0.mk (Kd.jL HO_3.out)
              have n1_ := Aside0.mk (qg HB.out)
              clear HO_3
              clear HB
              have HO_3 := n0_
              have HB := n1_
              clear n0_ n1_
              obtain ⟨Ao43, co43, eo43⟩ := Kd.zK HO_3.out
              (first | subst eo43 | (injection eo43 with f1_ f2_ f3_; have f4_ := f1_.symm; have f5_ := f3_.symm; clear f1_ f2_ f3_; subst f4_; subst f5_))
              refine jW (n := 15) (S := fun w' => True) (ds := []) #[false, false, false, false, false, false, false, false, false, false, false, false, false, false, false] (by kernel_rfl) rfl rfl trivial (fun hHeld => ?_); refine ja zk.JH zk.Zz (fun HT_ HW_ => ?_)
              generalize wr.drew = w42 at HO_3 HB hHeld ⊢
              refine zO (i := 0) (N := some 14) (v := ?_) (a' := ?_) #[true, false, false, false, false, false, false, false, false, false, false, false, false, false, false] rfl rfl (zC HT_.out (by kernel_rfl)) (fun _ _ _ h => h) (Or.inl ⟨by rfl, ?_⟩) ?_ ?_
              rotate_left
              ·intro w'
               go_simp
               with_reducible rfl
              rotate_left
              ·simp only [Act.put, List.setIfInBounds_toArray, List.set_cons_zero, List.set_cons_succ, zi, zj]
               rfl
              refine zO (i := 1) (N := some 15) (v := ?_) (a' := ?_) #[true, true, false, false, false, false, false, false, false, false, false, false, false, false, false] rfl rfl (zC HT_.out (by kernel_rfl)) (fun _ _ _ h => h) (Or.inl ⟨by rfl, ?_⟩) ?_ ?_
              rotate_left
              ·intro w'
               go_simp
               with_reducible rfl
              rotate_left
              ·simp only [Act.put, List.setIfInBounds_toArray, List.set_cons_zero, List.set_cons_succ, zi, zj]
               rfl
              refine zO (i := 2) (N := some 16) (v := ?_) (a' := ?_) #[true, true, true, false, false, false, false, false, false, false, false, false, false, false, false] rfl rfl (zC HT_.out (by kernel_rfl)) (fun _ _ _ h => h) (Or.inl ⟨by rfl, ?_⟩) ?_ ?_
              rotate_left
              ·intro w'
               go_simp
               with_reducible rfl
              rotate_left
              ·simp only [Act.put, List.setIfInBounds_toArray, List.set_cons_zero, List.set_cons_succ, zi, zj]
               rfl
              refine zO (i := 3) (N := some 17) (v := ?_) (a' := ?_) #[true, true, true, true, false, false, false, false, false, false, false, false, false, false, false] rfl rfl (zC HT_.out (by kernel_rfl)) (fun _ _ _ h => h) (Or.inl ⟨by rfl, ?_⟩) ?_ ?_
              rotate_left
              ·intro w'
               go_simp
               with_reducible rfl
              rotate_left
              ·simp only [Act.put, List.setIfInBounds_toArray, List.set_cons_zero, List.set_cons_succ, zi, zj]
               rfl
              refine zO (i := 4) (N := some 18) (v := ?_) (a' := ?_) #[true, true, true, true, true, false, false, false, false, false, false, false, false, false, false] rfl rfl (zC HT_.out (by kernel_rfl)) (fun _ _ _ h => h) (Or.inl ⟨by rfl, ?_⟩) ?_ ?_
              rotate_left
              ·intro w'
               go_simp
               with_reducible rfl
              rotate_left
              ·simp only [Act.put, List.setIfInBounds_toArray, List.set_cons_zero, List.set_cons_succ, zi, zj]
               rfl
              refine zO (i := 5) (N := some 19) (v := undef) (a' := ?_) #[true, true, true, true, true, true, false, false, false, false, false, false, false, false, false] rfl rfl (zC HT_.out (by kernel_rfl)) (fun _ _ _ h => h) (Or.inr ⟨by rfl, rfl⟩) ?_ ?_
              rotate_left
              ·simp only [Act.put, List.setIfInBounds_toArray, List.set_cons_zero, List.set_cons_succ, zi, zj]
               rfl
              refine zO (i := 6) (N := some 20) (v := undef) (a' := ?_) #[true, true, true, true, true, true, true, false, false, false, false, false, false, false, false] rfl rfl (zC HT_.out (by kernel_rfl)) (fun _ _ _ h => h) (Or.inr ⟨by rfl, rfl⟩) ?_ ?_
              rotate_left
              ·simp only [Act.put, List.setIfInBounds_toArray, List.set_cons_zero, List.set_cons_succ, zi, zj]
               rfl
              refine zO (i := 7) (N := some 21) (v := undef) (a' := ?_) #[true, true, true, true, true, true, true, true, false, false, false, false, false, false, false] rfl rfl (zC HT_.out (by kernel_rfl)) (fun _ _ _ h => h) (Or.inr ⟨by rfl, rfl⟩) ?_ ?_
              rotate_left
              ·simp only [Act.put, List.setIfInBounds_toArray, List.set_cons_zero, List.set_cons_succ, zi, zj]
               rfl
              refine zO (i := 8) (N := some 22) (v := undef) (a' := ?_) #[true, true, true, true, true, true, true, true, true, false, false, false, false, false, false] rfl rfl (zC HT_.out (by kernel_rfl)) (fun _ _ _ h => h) (Or.inr ⟨by rfl, rfl⟩) ?_ ?_
              rotate_left
              ·simp only [Act.put, List.setIfInBounds_toArray, List.set_cons_zero, List.set_cons_succ, zi, zj]
               rfl
              refine zO (i := 9) (N := some 23) (v := undef) (a' := ?_) #[true, true, true, true, true, true, true, true, true, true, false, false, false, false, false] rfl rfl (zC HT_.out (by kernel_rfl)) (fun _ _ _ h => h) (Or.inr ⟨by rfl, rfl⟩) ?_ ?_
              rotate_left
              ·simp only [Act.put, List.setIfInBounds_toArray, List.set_cons_zero, List.set_cons_succ, zi, zj]
               rfl
              refine zO (i := 10) (N := some 24) (v := undef) (a' := ?_) #[true, true, true, true, true, true, true, true, true, true, true, false, false, false, false] rfl rfl (zC HT_.out (by kernel_rfl)) (fun _ _ _ h => h) (Or.inr ⟨by rfl, rfl⟩) ?_ ?_
              rotate_left
              ·simp only [Act.put, List.setIfInBounds_toArray, List.set_cons_zero, List.set_cons_succ, zi, zj]
               rfl
              refine zO (i := 11) (N := some 25) (v := undef) (a' := ?_) #[true, true, true, true, true, true, true, true, true, true, true, true, false, false, false] rfl rfl (zC HT_.out (by kernel_rfl)) (fun _ _ _ h => h) (Or.inr ⟨by rfl, rfl⟩) ?_ ?_
              rotate_left
              ·simp only [Act.put, List.setIfInBounds_toArray, List.set_cons_zero, List.set_cons_succ, zi, zj]
               rfl
              refine zO (i := 12) (N := some 26) (v := undef) (a' := ?_) #[true, true, true, true, true, true, true, true, true, true, true, true, true, false, false] rfl rfl (zC HT_.out (by kernel_rfl)) (fun _ _ _ h => h) (Or.inr ⟨by rfl, rfl⟩) ?_ ?_
              rotate_left
              ·simp only [Act.put, List.setIfInBounds_toArray, List.set_cons_zero, List.set_cons_succ, zi, zj]
               rfl
              refine zO (i := 13) (N := some 27) (v := undef) (a' := ?_) #[true, true, true, true, true, true, true, true, true, true, true, true, true, true, false] rfl rfl (zC HT_.out (by kernel_rfl)) (fun _ _ _ h => h) (Or.inr ⟨by rfl, rfl⟩) ?_ ?_
              rotate_left
              ·simp only [Act.put, List.setIfInBounds_toArray, List.set_cons_zero, List.set_cons_succ, zi, zj]
               rfl
              refine zO (i := 14) (N := some 28) (v := ?_) (a' := ?_) #[true, true, true, true, true, true, true, true, true, true, true, true, true, true, true] rfl rfl (zC HT_.out (by kernel_rfl)) (fun _ _ _ h => h) (Or.inl ⟨by rfl, ?_⟩) ?_ ?_
              rotate_left
              ·intro w'
               go_simp
               with_reducible rfl
              rotate_left
              ·simp only [Act.put, List.setIfInBounds_toArray, List.set_cons_zero, List.set_cons_succ, zi, zj]
               rfl
              refine vF (jK HT_.out (by kernel_rfl)) ?_
              try go_wp2
              have n0_ := Aside0.mk (Kd.jL HO_3.out)
              have n1_ := Aside0.mk (qg HB.out)
              clear HO_3
              clear HB
              have HO_3 := n0_
              have HB := n1_
              clear n0_ n1_
              refine jW (n := 15) (S := fun w' => True) (ds := []) #[false, false, false, false, false, false, false, false, false, false, false, false, false, false, false] (by kernel_rfl) rfl rfl trivial (fun hHeld => ?_); refine ja zk.zbk zk.zar (fun HT_ HW_ => ?_)
              generalize w42.drew = w44 at HO_3 HB hHeld ⊢
              refine zO (i := 0) (N := some 31) (v := ?_) (a' := ?_) #[true, false, false, false, false, false, false, false, false, false, false, false, false, false, false] rfl rfl (zC HT_.out (by kernel_rfl)) (fun _ _ _ h => h) (Or.inl ⟨by rfl, ?_⟩) ?_ ?_
              rotate_left
              ·intro w'
               go_simp
               with_reducible rfl
              rotate_left
              ·simp only [Act.put, List.setIfInBounds_toArray, List.set_cons_zero, List.set_cons_succ, zi, zj]
               rfl
              refine zO (i := 1) (N := some 32) (v := ?_) (a' := ?_) #[true, true, false, false, false, false, false, false, false, false, false, false, false, false, false] rfl rfl (zC HT_.out (by kernel_rfl)) (fun _ _ _ h => h) (Or.inl ⟨by rfl, ?_⟩) ?_ ?_
              rotate_left
              ·intro w'
               go_simp
               with_reducible rfl
              rotate_left
              ·simp only [Act.put, List.setIfInBounds_toArray, List.set_cons_zero, List.set_cons_succ, zi, zj]
               rfl
              refine zO (i := 2) (N := some 33) (v := ?_) (a' := ?_) #[true, true, true, false, false, false, false, false, false, false, false, false, false, false, false] rfl rfl (zC HT_.out (by kernel_rfl)) (fun _ _ _ h => h) (Or.inl ⟨by rfl, ?_⟩) ?_ ?_
              rotate_left
              ·intro w'
               go_simp
               with_reducible rfl
              rotate_left
              ·simp only [Act.put, List.setIfInBounds_toArray, List.set_cons_zero, List.set_cons_succ, zi, zj]
               rfl
              refine zO (i := 3) (N := some 34) (v := ?_) (a' := ?_) #[true, true, true, true, false, false, false, false, false, false, false, false, false, false, false] rfl rfl (zC HT_.out (by kernel_rfl)) (fun _ _ _ h => h) (Or.inl ⟨by rfl, ?_⟩) ?_ ?_
              rotate_left
              ·intro w'
               go_simp
               with_reducible rfl
              rotate_left
              ·simp only [Act.put, List.setIfInBounds_toArray, List.set_cons_zero, List.set_cons_succ, zi, zj]
               rfl
              refine zO (i := 4) (N := some 35) (v := ?_) (a' := ?_) #[true, true, true, true, true, false, false, false, false, false, false, false, false, false, false] rfl rfl (zC HT_.out (by kernel_rfl)) (fun _ _ _ h => h) (Or.inl ⟨by rfl, ?_⟩) ?_ ?_
              rotate_left
              ·intro w'
               go_simp
               with_reducible rfl
              rotate_left
              ·simp only [Act.put, List.setIfInBounds_toArray, List.set_cons_zero, List.set_cons_succ, zi, zj]
               rfl
              refine zO (i := 5) (N := some 36) (v := undef) (a' := ?_) #[true, true, true, true, true, true, false, false, false, false, false, false, false, false, false] rfl rfl (zC HT_.out (by kernel_rfl)) (fun _ _ _ h => h) (Or.inr ⟨by rfl, rfl⟩) ?_ ?_
              rotate_left
              ·simp only [Act.put, List.setIfInBounds_toArray, List.set_cons_zero, List.set_cons_succ, zi, zj]
               rfl
              refine zO (i := 6) (N := some 37) (v := undef) (a' := ?_) #[true, true, true, true, true, true, true, false, false, false, false, false, false, false, false] rfl rfl (zC HT_.out (by kernel_rfl)) (fun _ _ _ h => h) (Or.inr ⟨by rfl, rfl⟩) ?_ ?_
              rotate_left
              ·simp only [Act.put, List.setIfInBounds_toArray, List.set_cons_zero, List.set_cons_succ, zi, zj]
               rfl
              refine zO (i := 7) (N := some 38) (v := undef) (a' := ?_) #[true, true, true, true, true, true, true, true, false, false, false, false, false, false, false] rfl rfl (zC HT_.out (by kernel_rfl)) (fun _ _ _ h => h) (Or.inr ⟨by rfl, rfl⟩) ?_ ?_
              rotate_left
              ·simp only [Act.put, List.setIfInBounds_toArray, List.set_cons_zero, List.set_cons_succ, zi, zj]
               rfl
              refine zO (i := 8) (N := some 39) (v := undef) (a' := ?_) #[true, true, true, true, true, true, true, true, true, false, false, false, false, false, false] rfl rfl (zC HT_.out (by kernel_rfl)) (fun _ _ _ h => h) (Or.inr ⟨by rfl, rfl⟩) ?_ ?_
              rotate_left
              ·simp only [Act.put, List.setIfInBounds_toArray, List.set_cons_zero, List.set_cons_succ, zi, zj]
               rfl
              refine zO (i := 9) (N := some 40) (v := undef) (a' := ?_) #[true, true, true, true, true, true, true, true, true, true, false, false, false, false, false] rfl rfl (zC HT_.out (by kernel_rfl)) (fun _ _ _ h => h) (Or.inr ⟨by rfl, rfl⟩) ?_ ?_
              rotate_left
              ·simp only [Act.put, List.setIfInBounds_toArray, List.set_cons_zero, List.set_cons_succ, zi, zj]
               rfl
              refine zO (i := 10) (N := some 41) (v := undef) (a' := ?_) #[true, true, true, true, true, true, true, true, true, true, true, false, false, false, false] rfl rfl (zC HT_.out (by kernel_rfl)) (fun _ _ _ h => h) (Or.inr ⟨by rfl, rfl⟩) ?_ ?_
              rotate_left
              ·simp only [Act.put, List.setIfInBounds_toArray, List.set_cons_zero, List.set_cons_succ, zi, zj]
               rfl
              refine zO (i := 11) (N := some 42) (v := undef) (a' := ?_) #[true, true, true, true, true, true, true, true, true, true, true, true, false, false, false] rfl rfl (zC HT_.out (by kernel_rfl)) (fun _ _ _ h => h) (Or.inr ⟨by rfl, rfl⟩) ?_ ?_
              rotate_left
              ·simp only [Act.put, List.setIfInBounds_toArray, List.set_cons_zero, List.set_cons_succ, zi, zj]
               rfl
              refine zO (i := 12) (N := some 43) (v := undef) (a' := ?_) #[true, true, true, true, true, true, true, true, true, true, true, true, true, false, false] rfl rfl (zC HT_.out (by kernel_rfl)) (fun _ _ _ h => h) (Or.inr ⟨by rfl, rfl⟩) ?_ ?_
              rotate_left
              ·simp only [Act.put, List.setIfInBounds_toArray, List.set_cons_zero, List.set_cons_succ, zi, zj]
               rfl
              refine zO (i := 13) (N := some 44) (v := undef) (a' := ?_) #[true, true, true, true, true, true, true, true, true, true, true, true, true, true, false] rfl rfl (zC HT_.out (by kernel_rfl)) (fun _ _ _ h => h) (Or.inr ⟨by rfl, rfl⟩) ?_ ?_
              rotate_left
              ·simp only [Act.put, List.setIfInBounds_toArray, List.set_cons_zero, List.set_cons_succ, zi, zj]
               rfl
              refine zO (i := 14) (N := some 45) (v := ?_) (a' := ?_) #[true, true, true, true, true, true, true, true, true, true, true, true, true, true, true] rfl rfl (zC HT_.out (by kernel_rfl)) (fun _ _ _ h => h) (Or.inl ⟨by rfl, ?_⟩) ?_ ?_
              rotate_left
              ·intro w'
               go_simp
               with_reducible rfl
              rotate_left
              ·simp only [Act.put, List.setIfInBounds_toArray, List.set_cons_zero, List.set_cons_succ, zi, zj]
               rfl
              refine vF (jK HT_.out (by kernel_rfl)) ?_
              try go_wp2_with (first | ((with_reducible refine zm (N := 46) rfl ?_); refine Kd.jy (Kd.int .i64) _ 3 ?hg (N := 46) ?hd (xs := ([] : List Int)) (inner := []) (ok := fun _ => True) (okp := fun _ => True) ?hr ?hp (fun _ hk => hk) trivial (Below.refl _ _) (Nat.le_refl _) (by simp) ?_; (case hd => rfl); (case hg => rfl); (case hr => exact sqG); (case hp => exact (qK.none _ _)); intro v143 w45 ho46 hb hg_ hnew_; clear hg_ hnew_; (first | rw [← Ny142.out] at ho46 | (simp only [Int.reduceToNat] at ho46; rw [← Ny142.out] at ho46)); have n0_ := Aside0.mk (Kd.zw (sqR HO_3.out) (Kd.zQ ho46) hb); have n1_ := Aside0.mk (Kd.zD (Kd.zP ho46 (Kd.qt (sqR HO_3.out))) (zh sqB)); have n2_ := Aside0.mk (zc sqB hb); clear HO_3; clear HB; have HO_3 := n0_; have HO144 := n1_; have HB := n2_; clear n0_ n1_ n2_; clear hb ho46; have q47 : (x5_2 : Int) ≤ ((x3_1.length : Int) : Int) := of_decide_eq_true sqA; obtain ⟨i047, hi047, _, hsz47, _⟩ := info_parts jH; have hroom47 : x3_1.length ≤ co43 := (Kd.zg HO_3.out).2.1; have hC47 : Kd.C (Kd.int .i64) _ Ao43 x3_1.length x3_1 := (Kd.zg HO_3.out).2.2; have q047 : (0 : Int) ≤ (x5_2 : Int) := of_decide_eq_true sqA; have hcut47 := Vq (P := Tryz.prog) 22 3 .i64 Tryz.underlying22 hi047 1 hsz47 Ao43 x3_1.length co43 x5_2 q047 q47; have hr47 := Kd.Vk (m := (x5_2 : Int).toNat) (c := co43) hC47 (by omega) hroom47; obtain ⟨A47, hA47⟩ : ∃ A1, A1 = (if co43 = (x5_2 : Int).toNat then Ao43 else (Ao43 : Option Addr).map (·.add ((x5_2 : Int).toNat * 1))) := ⟨_, rfl⟩; obtain ⟨c47, hc47⟩ : ∃ c1, c1 = co43 - (x5_2 : Int).toNat := ⟨_, rfl⟩; have hy47 : y145.length = x3_1.length - (x5_2 : Int).toNat := (by rw [Ny145.out, List.length_drop] <;> omega); rw [show (x3_1).drop (x5_2 : Int).toNat = y145 from Ny145.out.symm] at hr47; replace hr47 : Kd.C (Kd.int .i64) _ A47 y145.length y145 := (by rw [hA47]; exact hr47); rw [← hy47, ← hA47, ← hc47] at hcut47; have HR148 := Aside0.mk hr47; have HC148 := Aside0.mk (show y145.length ≤ c47 from by rw [hy47, hc47]; exact Nat.sub_le_sub_right hroom47 _); clear hr47 hC47 hroom47 hi047 hsz47 hc47; have KY47 := Aside0.mk hy47; have KA47 := Aside0.mk hA47; clear hy47 hA47; have KL47 := Aside0.mk (show (x5_2 : Int).toNat ≤ x3_1.length from by omega); replace q47 := eq_true q47) | ((with_reducible refine qB (b := .append) (xs := #[.tmp 46, .tmp 49]) rfl ?_); at_builtin; refine Kd.yH (Kd.int .i64) (w0 := w) w.heap.size rfl (.tmp 46) (.tmp 49) 22 3 (.int .i64 0) 8 rfl Tryz.underlying22 jH rfl (by decide) (by omega) v143 y142 y145 _ _ _ (fun k_ => some k_ ≠ (.slice Ao43 x3_1.length co43 : Value).ownBlock) (fun _ => False) rfl rfl ?aO ?aR (fun _ _ h => h) (fun _ h => h.elim) ?aF ?aB ?aS ?aL ?_; (case aR => exact sqC (by repeat (first | (with_reducible exact HR148.out) | (with_reducible refine Kd.Vc ?_ _) | (with_reducible refine Kd.Zr ?_ _) | (with_reducible refine Kd.Ze ?_) | exact HR148.out))); (case aB => exact sqB); (case aF => exact (fun k_ hk => Kd.yG (Kd.qt (sqR HO_3.out)) k_ hk)); (case aO => exact (by refine sqR ?_; exact Kd.zn HO144.out (fun _ hk => hk.2))); (case aS => exact (zh sqB)); (case aL => have := LMc36.out; omega); intro v150 w48 ho hb hg hat; rw [← Ny149.out] at ho; have n0_ := Aside0.mk (Kd.vm (ok := (fun _ => True)) (sqR HO_3.out) hg hat); have n1_ := Aside0.mk (hb); have n2_ := Aside0.mk ((show Kd.C (Kd.int .i64) w48 A47 y145.length y145 from by rw [Ny145.out, KA47.out]; exact Kd.Vk (m := (x5_2 : Int).toNat) (c := co43) ((Kd.zg (Kd.vm (ok := (fun _ => True)) (sqR HO_3.out) hg hat)).2.2) KL47.out ((Kd.zg (Kd.vm (ok := (fun _ => True)) (sqR HO_3.out) hg hat)).2.1))); have n3_ := Aside0.mk (ho); clear HO_3; clear HB; clear HR148; clear HO144; have HO_3 := n0_; have HB := n1_; have HR148 := n2_; have HO151 := n3_; clear n0_ n1_ n2_ n3_; clear ho hb hg hat))
              have n0_ := Aside0.mk (Kd.jL HO_3.out)
              have n1_ := Aside0.mk (Kd.jL HO151.out)
              have n2_ := Aside0.mk (Kd.Ze HR148.out)
              have n3_ := Aside0.mk (qg HB.out)
              clear HO_3
              clear HO151
              clear HR148
              clear HB
              have HO_3 := n0_
              have HO151 := n1_
              have HR148 := n2_
              have HB := n3_
              clear n0_ n1_ n2_ n3_
              have q50 : (x5_2 : Int) ≤ ((x3_1.length : Int) : Int) := of_decide_eq_true sqA
              obtain ⟨i050, hi050, _, hsz50, _⟩ := info_parts jH
              have hcut50 := zas (P := Tryz.prog) 22 3 .i64 Tryz.underlying22 hi050 Ao43 x3_1.length co43 x5_2 (of_decide_eq_true sqA) q50 (Kd.zg HO_3.out).2.1
              have hr50 := Kd.zae (m := (x5_2 : Int).toNat) HO_3.out (by omega)
              have hy50 : y152.length = (x5_2 : Int).toNat := (by rw [Ny152.out, List.length_take]; omega)
              rw [← Ny152.out] at hr50
              rw [← hy50] at hr50 hcut50
              clear hy50 hi050 hsz50 HO_3
              have HO154 := Aside0.mk hr50
              clear hr50
              replace q50 := eq_true q50
              have p155 : 0 ≤ (x4_1 : Int) := of_decide_eq_true sqA
              have q155 : x4_1 < (l0.length : Int) := of_decide_eq_true sqA
              obtain ⟨ad155, e155, hx155_0⟩ := Kd.zT HR0.out x4_1 p155 q155
              have hw155_0 := hx155_0
              cases e155
              replace hx155_0 := (HB.out.cell (World.block_lt_of_cell? w _ hx155_0)).trans hx155_0
              replace p155 := eq_true p155
              replace q155 := eq_true q155
              refine jW (n := 12) (S := fun w' => w'.cell? (ad155.add (x4_1).toNat) = some (.int .i64 (rd l0 x4_1))) (ds := []) #[false, false, false, false, false, false, false, false, false, false, false, false] (by kernel_rfl) rfl rfl (((HB.out.cell (World.block_lt_of_cell? w _ hw155_0)).trans hw155_0)) (fun hHeld => ?_); refine ja zk.za8 zk.zaD (fun HT_ HW_ => ?_)
              generalize w48.drew = w49 at HO_3 HO151 HR148 HB HO154 hx155_0 hHeld ⊢
              refine zO (i := 0) (N := some 51) (v := ?_) (a' := ?_) #[true, false, false, false, false, false, false, false, false, false, false, false] rfl rfl (zC HT_.out (by kernel_rfl)) (fun _ _ _ h => h) (Or.inl ⟨by rfl, ?_⟩) ?_ ?_
              rotate_left
              ·intro w'
               go_simp
               with_reducible rfl
              rotate_left
              ·simp only [Act.put, List.setIfInBounds_toArray, List.set_cons_zero, List.set_cons_succ, zi, zj]
               rfl
              refine zO (i := 1) (N := some 52) (v := ?_) (a' := ?_) #[true, true, false, false, false, false, false, false, false, false, false, false] rfl rfl (zC HT_.out (by kernel_rfl)) (fun _ _ _ h => h) (Or.inl ⟨by rfl, ?_⟩) ?_ ?_
              rotate_left
              ·intro w'
               go_simp
               with_reducible rfl
              rotate_left
              ·simp only [Act.put, List.setIfInBounds_toArray, List.set_cons_zero, List.set_cons_succ, zi, zj]
               rfl
              refine zO (i := 2) (N := some 53) (v := ?_) (a' := ?_) #[true, true, true, false, false, false, false, false, false, false, false, false] rfl rfl (zC HT_.out (by kernel_rfl)) (fun _ _ _ h => h) (Or.inl ⟨by rfl, ?_⟩) ?_ ?_
              rotate_left
              ·intro w'
               go_simp
               with_reducible rfl
              rotate_left
              ·simp only [Act.put, List.setIfInBounds_toArray, List.set_cons_zero, List.set_cons_succ, zi, zj]
               rfl
              refine zO (i := 3) (N := some 54) (v := ?_) (a' := ?_) #[true, true, true, true, false, false, false, false, false, false, false, false] rfl rfl (zC HT_.out (by kernel_rfl)) (fun _ _ _ h => h) (Or.inl ⟨by rfl, ?_⟩) ?_ ?_
              rotate_left
              ·intro w'
               go_simp
               with_reducible rfl
              rotate_left
              ·simp only [Act.put, List.setIfInBounds_toArray, List.set_cons_zero, List.set_cons_succ, zi, zj]
               rfl
              refine zO (i := 4) (N := some 55) (v := ?_) (a' := ?_) #[true, true, true, true, true, false, false, false, false, false, false, false] rfl rfl (zC HT_.out (by kernel_rfl)) (fun _ _ _ h => h) (Or.inl ⟨by rfl, ?_⟩) ?_ ?_
              rotate_left
              ·intro w'
               go_simp
               with_reducible rfl
              rotate_left
              ·simp only [Act.put, List.setIfInBounds_toArray, List.set_cons_zero, List.set_cons_succ, zi, zj]
               rfl
              refine zO (i := 5) (N := some 56) (v := ?_) (a' := ?_) #[true, true, true, true, true, true, false, false, false, false, false, false] rfl rfl (zC HT_.out (by kernel_rfl)) (fun _ _ _ h => h) (Or.inl ⟨by rfl, ?_⟩) ?_ ?_
              rotate_left
              ·intro w'
               go_simp
               with_reducible rfl
              rotate_left
              ·simp only [Act.put, List.setIfInBounds_toArray, List.set_cons_zero, List.set_cons_succ, zi, zj]
               rfl
              refine zO (i := 9) (N := some 60) (v := ?_) (a' := ?_) #[true, true, true, true, true, true, false, false, false, true, false, false] rfl rfl (zC HT_.out (by kernel_rfl)) (fun _ _ _ h => h) (Or.inl ⟨by rfl, ?_⟩) ?_ ?_
              rotate_left
              ·intro w'
               go_simp
               with_reducible rfl
              rotate_left
              ·simp only [Act.put, List.setIfInBounds_toArray, List.set_cons_zero, List.set_cons_succ, zi, zj]
               rfl
              refine jD (i := 6) (N := some 57) (v := ?_) (a' := ?_) #[true, true, true, true, true, true, true, false, false, true, false, false] rfl rfl (qT HT_.out HW_.out (by kernel_rfl)) (fun _ _ _ h => h) (Or.inl ⟨by rfl, ?_⟩) hHeld ?_ ?_
              rotate_left
              ·intro w' s0
               go_simp
               with_reducible rfl
              rotate_left
              ·simp only [Act.put, List.setIfInBounds_toArray, List.set_cons_zero, List.set_cons_succ, zi, zj]
               rfl
              refine yT (i := 7) (N := some 58) #[true, true, true, true, true, true, true, true, false, true, false, false] rfl rfl (j7 HT_.out (by kernel_rfl)) (by decide) (fun K hK => ?_)
              refine zaj (w1 := ?_) (v := ?_) (by rfl) rfl ?_ ?_
              rotate_left 2
              ·go_simp
               constructor
               ·rfl
               ·rfl
              refine hK.out _ _ ((World.cell?_alloc_lt _ _ _ (World.block_lt_of_cell? _ _ (((HB.out.cell (World.block_lt_of_cell? w _ hw155_0)).trans hw155_0)))).trans (((HB.out.cell (World.block_lt_of_cell? w _ hw155_0)).trans hw155_0))) (fun hHeld => ?_)
              clear hK K
              refine vG (a' := ?_) ?_ ?_
              rotate_left
              ·show Act.put _ (some 58) _ = _
               simp only [Act.put, List.setIfInBounds_toArray, List.set_cons_zero, List.set_cons_succ, zi, zj]
               rfl
              refine yT (i := 8) (N := some 59) #[true, true, true, true, true, true, true, true, true, true, false, false] rfl rfl (j7 HT_.out (by kernel_rfl)) (by decide) (fun K hK => ?_)
              refine Kd.ZA (Kd.int .i64) (w0 := w) w.heap.size (by rfl) (.tmp 53) (.tmp 58) 22 3 (.int .i64 0) 8 rfl Tryz.underlying22 jH rfl (by decide) (by omega) (.slice Ao43 y152.length co43) y152 (rd l0 x4_1) [.int .i64 (rd l0 x4_1)] (fun k_ => some k_ ≠ (v150 : Value).ownBlock) (fun _ => False) rfl rfl ?aP (fun _ hk => hk.elim) ?aF ?aO ?aB ?aS ?aL ?_
              (case aP => exact rfl)
              (case aB => exact sqB)
              (case aF => exact (fun k_ hk => Kd.yG (Kd.qt (sqR HO151.out)) k_ hk))
              (case aO => exact (by refine sqR ?_; exact Kd.zn HO154.out (fun _ hk => hk.2)))
              (case aS => exact (zh sqB))
              (case aL => have := LMc40.out; omega)
              intro v157 w51 ho hb hg hat
              rw [← Ny156.out] at ho
              have n0_ := Aside0.mk (Kd.vm (ok := (fun _ => True)) (by refine sqR ?_; exact Kd.zn HO151.out (fun _ hk => ⟨trivial, by first | exact hk | exact fun h_ => hk (h_.trans ((fun (A : Option Addr) (x y c : Nat) => (by cases A <;> rfl : (Value.slice A x c).ownBlock = (Value.slice A y c).ownBlock)) _ _ _ _))⟩)) hg hat)
              have n1_ := Aside0.mk (hb)
              have n2_ := Aside0.mk (ho)
              clear HO151
              clear HB
              clear HO154
              have HO151 := n0_
              have HB := n1_
              have HO158 := n2_
              clear n0_ n1_ n2_
              clear ho hb hg hat
              obtain ⟨Ao53, co53, eo53⟩ := Kd.zK HO151.out
              (first | subst eo53 | (injection eo53 with f1_ f2_ f3_; have f4_ := f1_.symm; have f5_ := f3_.symm; clear f1_ f2_ f3_; subst f4_; subst f5_))
              refine hK.out _ _ (((HB.out.cell (World.block_lt_of_cell? w _ hw155_0)).trans hw155_0)) (fun hHeld => ?_)
              clear hK K
              refine vG (a' := ?_) ?_ ?_
              rotate_left
              ·show Act.put _ (some 59) _ = _
               simp only [Act.put, List.setIfInBounds_toArray, List.set_cons_zero, List.set_cons_succ, zi, zj]
               rfl
              refine yT (i := 10) (N := some 61) #[true, true, true, true, true, true, true, true, true, true, true, false] rfl rfl (j7 HT_.out (by kernel_rfl)) (by decide) (fun K hK => ?_)
              refine Kd.yq (Kd.int .i64) (w0 := w) w.heap.size (by rfl) (.tmp 59) (.tmp 60) 22 3 (.int .i64 0) 8 rfl Tryz.underlying22 jH rfl (by decide) (by omega) v157 y156 y149 _ _ _ (fun k_ => some k_ ≠ (.slice Ao53 y149.length co53 : Value).ownBlock) (fun _ => False) rfl rfl ?aO ?aR (fun _ _ h => h) (fun _ h => h.elim) ?aF ?aB ?aS ?aL ?_
              (case aR => exact sqC (Kd.zg HO151.out).2.2)
              (case aB => exact sqB)
              (case aF => exact (fun k_ hk => Kd.yG (Kd.qt (sqR HO151.out)) k_ hk))
              (case aO => exact (sqR HO158.out))
              (case aS => exact (zh sqB))
              (case aL => have := LMc41.out; omega)
              intro v160 w52 ho hb hg hat
              rw [← Ny159.out] at ho
              have n0_ := Aside0.mk (Kd.vm (ok := (fun _ => True)) (sqR HO151.out) hg hat)
              have n1_ := Aside0.mk (hb)
              have n2_ := Aside0.mk (ho)
              clear HO151
              clear HB
              clear HO158
              have HO151 := n0_
              have HB := n1_
              have HO161 := n2_
              clear n0_ n1_ n2_
              clear ho hb hg hat
              refine hK.out _ _ (((HB.out.cell (World.block_lt_of_cell? w _ hw155_0)).trans hw155_0)) (fun hHeld => ?_)
              clear hK K
              refine vG (a' := ?_) ?_ ?_
              rotate_left
              ·show Act.put _ (some 61) _ = _
               simp only [Act.put, List.setIfInBounds_toArray, List.set_cons_zero, List.set_cons_succ, zi, zj]
               rfl
              refine zO (i := 11) (N := some 3) (v := ?_) (a' := ?_) #[true, true, true, true, true, true, true, true, true, true, true, true] rfl rfl (zC HT_.out (by kernel_rfl)) (fun _ _ _ h => h) (Or.inl ⟨by rfl, ?_⟩) ?_ ?_
              rotate_left
              ·intro w'
               go_simp
               with_reducible rfl
              rotate_left
              ·simp only [Act.put, List.setIfInBounds_toArray, List.set_cons_zero, List.set_cons_succ, zi, zj]
               rfl
              refine vF (jK HT_.out (by kernel_rfl)) ?_
              try go_wp2
              go_roundg k2
              case measure => have := HK1.out; have := HK2.out; omega
              case rel => exact ⟨(y159), (wrap64 (x4_1 + 1)), (sqD), H', ⟨by have := HK1.out; have := HK2.out; omega⟩, ⟨by refine sqR ?_; exact Kd.zn HO161.out (fun _ hk => trivial)⟩, ⟨sqB⟩⟩
             ·rw [if_neg c41] at H
              exact absurd H (by simp)
            ·rw [if_neg c40] at H
             exact absurd H (by simp)
           ·rw [if_neg c39] at H
            exact absurd H (by simp)
          ·rw [if_neg c38] at H
           exact absurd H (by simp)
         ·rw [if_neg c36] at H
          exact absurd H (by simp)
        ·rw [if_neg c35] at H
         exact absurd H (by simp)
       ·rw [if_neg c34] at H
        exact absurd H (by simp)
   ·rw [if_neg c4] at H
    have c4b0 : decide (x4_1 < (l0.length : Int)) = false := decide_eq_false c4
    clear c4
    obtain rfl := Option.some.inj H
    go_wp2
    go_ret
    exact ⟨_, sqE, sqR HO_3.out, sqB⟩

mutual
def zE.l0 : Nat → List Int → List Int → Int → Option (List Int)
 | 0, _, _, _ => none
 | k + 1, x0, x3, x4 => if x4 < (x0.length : Int) then (zE.l1 k x0 x3 x4 true 0) else ((zk.f k x3).bind fun t166 => (some t166))
def zE.l1 : Nat → List Int → List Int → Int → Bool → Int → Option (List Int)
 | 0, _, _, _, _, _ => none
 | k + 1, x0, x3, x4, x5, x6 => if x6 < (x0.length : Int) then (if x5 = true then (if 0 ≤ x6 then (if 0 ≤ x4 then (if x4 < (x0.length : Int) then (if (rd x0 x6) = (rd x0 x4) then (zE.l1 k x0 x3 x4 true (wrap64 (x6 + 1))) else (zE.l1 k x0 x3 x4 ((Go.bits .and .i64 (rd x0 x6) (rd x0 x4)) != (rd x0 x6)) (wrap64 (x6 + 1)))) else (none)) else (none)) else (none)) else (zE.l1 k x0 x3 x4 false (wrap64 (x6 + 1)))) else (if x5 = true then (if 0 ≤ x4 then (if x4 < (x0.length : Int) then (if x3.length < 17592186044416 then (zE.l0 k x0 (x3 ++ [rd x0 x4]) (wrap64 (x4 + 1))) else (none)) else (none)) else (none)) else (zE.l0 k x0 x3 (wrap64 (x4 + 1))))
end
def zE.f (k : Nat) (l0 : List Int) : Option (List Int) := (some (([] : List Int) : List Int)).bind fun y162 => ((qa.f k 8 l0).bind fun t165 => (if t165 = true then (zE.l0 k l0 y162 0) else (some y162)))
theorem zE.calls (k : Nat) (A0 : Option Addr) (c0 : Nat) (l0 : List Int) (r : List Int) (w : World) (hr0 : Kd.C (Kd.int .i64) w A0 l0.length l0) (hc0 : l0.length ≤ c0) (h : zE.f k l0 = some r) :
  Calls Tryz.prog 29 #[.slice A0 l0.length c0] w fun e w' => ∃ v0_ : Value, e = .returned (v0_) ∧ Kd.R (Kd.int .i64) 3 w' w.heap.size (fun _ => True) v0_ r ∧ Below w.heap.size w w' := by
 have HR0 := Aside0.mk hr0
 have HC0 := Aside0.mk hc0
 clear hr0 hc0
 have HB := Aside0.mk (Below.refl w.heap.size w)
 have H : ((some (([] : List Int) : List Int)).bind fun y162 => ((qa.f k 8 l0).bind fun t165 => (if t165 = true then (zE.l0 k l0 y162 0) else (some y162)))) = some r := h
 clear h
 obtain ⟨y162, hy162⟩ : ∃ y_ : List Int, y_ = (([] : List Int)) := ⟨_, rfl⟩
 replace H : ((qa.f k 8 l0).bind fun t165 => (if t165 = true then (zE.l0 k l0 y162 0) else (some y162))) = some r := by first | (rw [hy162]; with_reducible exact H) | (have H2_ := (Option.bind_some _ _).symm.trans H; rw [hy162]; with_reducible exact H2_) | (have H2_ := (Option.bind_some _ _).symm.trans H; with_reducible exact H2_) | with_reducible exact H | (rw [hy162]; exact H) | exact H
 have Ny162 := Aside0.mk hy162
 clear hy162
 replace H := Option.bind_eq_some_iff.mp H
 obtain ⟨t165, A20, H⟩ := H
 replace H : (if t165 = true then (zE.l0 k l0 y162 0) else (some y162)) = some r := H
 have A2 := Aside0.mk A20
 clear A20
 by_cases c3 : t165 = true
 ·subst c3
  have H1 : (zE.l0 k l0 y162 0) = some r := by rw [if_pos rfl] at H; exact H
  clear H
  have H := H1
  clear H1
  have H' := Aside0.mk H
  clear H
  go_enter Tryz.func29, Tryz.ntmps29
  go_wp2_with (first | ((with_reducible refine zm (N := 7) rfl ?_); refine Kd.jy (Kd.int .i64) _ 3 ?hg (N := 7) ?hd (xs := ([] : List Int)) (inner := []) (ok := fun _ => True) (okp := fun _ => True) ?hr ?hp (fun _ hk => hk) trivial (Below.refl _ _) (Nat.le_refl _) (by simp) ?_; (case hd => rfl); (case hg => rfl); (case hr => exact sqG); (case hp => exact (qK.none _ _)); intro v163 w4 ho5 hb hg_ hnew_; clear hg_ hnew_; (first | rw [← Ny162.out] at ho5 | (simp only [Int.reduceToNat] at ho5; rw [← Ny162.out] at ho5)); have n0_ := Aside0.mk (Kd.zD ho5 (zh sqB)); have n1_ := Aside0.mk (zc sqB hb); clear HB; have HO164 := n0_; have HB := n1_; clear n0_ n1_; clear hb ho5) | (go_at_call 32; (try simp only [zi, zj]); (with_reducible refine (qa.calls k 8 _ _ l0 true _ ?side1 ?side2 A2.out).mono ?_); (case side1 => exact sqC (Kd.zt HR0.out HB.out)); (case side2 => exact HC0.out); rintro e w' ⟨rfl, ⟨nd, rfl⟩⟩; (try first | exact ⟨rfl, _, World.drewN_drewN _ _ _⟩ | exact ⟨rfl, _, Eq.trans (World.drewN_drewN _ _ _) (congrArg (World.drewN _) (Nat.add_assoc _ _ _))⟩)))
  repeat (go_quiet (first | ((with_reducible refine zm (N := 7) rfl ?_); refine Kd.jy (Kd.int .i64) _ 3 ?hg (N := 7) ?hd (xs := ([] : List Int)) (inner := []) (ok := fun _ => True) (okp := fun _ => True) ?hr ?hp (fun _ hk => hk) trivial (Below.refl _ _) (Nat.le_refl _) (by simp) ?_; (case hd => rfl); (case hg => rfl); (case hr => exact sqG); (case hp => exact (qK.none _ _)); intro v163 w4 ho5 hb hg_ hnew_; clear hg_ hnew_; (first | rw [← Ny162.out] at ho5 | (simp only [Int.reduceToNat] at ho5; rw [← Ny162.out] at ho5)); have n0_ := Aside0.mk (Kd.zD ho5 (zh sqB)); have n1_ := Aside0.mk (zc sqB hb); clear HB; have HO164 := n0_; have HB := n1_; clear n0_ n1_; clear hb ho5) | (go_at_call 32; (try simp only [zi, zj]); (with_reducible refine (qa.calls k 8 _ _ l0 true _ ?side1 ?side2 A2.out).mono ?_); (case side1 => exact sqC (Kd.zt HR0.out HB.out)); (case side2 => exact HC0.out); rintro e w' ⟨rfl, ⟨nd, rfl⟩⟩; (try first | exact ⟨rfl, _, World.drewN_drewN _ _ _⟩ | exact ⟨rfl, _, Eq.trans (World.drewN_drewN _ _ _) (congrArg (World.drewN _) (Nat.add_assoc _ _ _))⟩))); try go_wp2_with (first | ((with_reducible refine zm (N := 7) rfl ?_); refine Kd.jy (Kd.int .i64) _ 3 ?hg (N := 7) ?hd (xs := ([] : List Int)) (inner := []) (ok := fun _ => True) (okp := fun _ => True) ?hr ?hp (fun _ hk => hk) trivial (Below.refl _ _) (Nat.le_refl _) (by simp) ?_; (case hd => rfl); (case hg => rfl); (case hr => exact sqG); (case hp => exact (qK.none _ _)); intro v163 w4 ho5 hb hg_ hnew_; clear hg_ hnew_; (first | rw [← Ny162.out] at ho5 | (simp only [Int.reduceToNat] at ho5; rw [← Ny162.out] at ho5)); have n0_ := Aside0.mk (Kd.zD ho5 (zh sqB)); have n1_ := Aside0.mk (zc sqB hb); clear HB; have HO164 := n0_; have HB := n1_; clear n0_ n1_; clear hb ho5) | (go_at_call 32; (try simp only [zi, zj]); (with_reducible refine (qa.calls k 8 _ _ l0 true _ ?side1 ?side2 A2.out).mono ?_); (case side1 => exact sqC (Kd.zt HR0.out HB.out)); (case side2 => exact HC0.out); rintro e w' ⟨rfl, ⟨nd, rfl⟩⟩; (try first | exact ⟨rfl, _, World.drewN_drewN _ _ _⟩ | exact ⟨rfl, _, Eq.trans (World.drewN_drewN _ _ _) (congrArg (World.drewN _) (Nat.add_assoc _ _ _))⟩))))
  go_loopg [3, 4] k (fun kq v3 v4 w' => ∃ (x3_1 : List Int) (x4_1 : Int), v4 = .int .i64 x4_1 ∧ Aside0 (zE.l0 kq l0 x3_1 x4_1 = some r) ∧ Aside0 (kq ≤ k) ∧ Aside0 (Kd.R (Kd.int .i64) 3 w' w.heap.size (fun _ => True) v3 x3_1) ∧ Aside0 (Below w.heap.size w w'))
  case atStart => exact ⟨(y162), (0), (sqD), H', ⟨Nat.le_refl _⟩, ⟨sqR HO164.out⟩, ⟨sqB⟩⟩
  case round =>
   clear H'
   try clear c2
   try clear p2
   try clear c3
   obtain ⟨x3_1, x4_1, rfl, HA, HK1, HO_3, HB⟩ := hrel
   cases gk with
   | zero => exact absurd HA.out (by simp [zE.l0])
   | succ k1 =>
    have H := HA.out
    clear HA
    simp only [zE.l0] at H
    by_cases c6 : x4_1 < (l0.length : Int)
    ·rw [if_pos c6] at H
     have c6b0 : decide (x4_1 < (l0.length : Int)) = true := decide_eq_true c6
     clear c6
     have H' := Aside0.mk H
     clear H
     go_wp2
     repeat (go_quiet (fail); try go_wp2)
     go_loopg [5, 6] k1 (fun kq v5 v6 w' => ∃ (x5_2 : Bool) (x6_2 : Int), v5 = .bool x5_2 ∧ v6 = .int .i64 x6_2 ∧ Aside0 (zE.l1 kq l0 x3_1 x4_1 x5_2 x6_2 = some r) ∧ Aside0 (kq ≤ k1) ∧ Aside0 (Kd.R (Kd.int .i64) 3 w' w.heap.size (fun _ => True) u3 x3_1) ∧ Aside0 (Below w.heap.size w w'))
     case atStart => exact ⟨(true), (0), (sqD), (sqD), H', ⟨Nat.le_refl _⟩, ⟨sqR HO_3.out⟩, ⟨sqB⟩⟩
     case round =>
      clear H'
      try clear c2
      try clear p2
      try clear c3
      try clear c6
      try clear c6b0
      try clear p2
      obtain ⟨x5_2, x6_2, rfl, rfl, HA, HK2, HO_3, HB⟩ := hrel
      cases gk with
      | zero => exact absurd HA.out (by simp [zE.l1])
      | succ k2 =>
       have H := HA.out
       clear HA
       simp only [zE.l1] at H
       by_cases c7 : x6_2 < (l0.length : Int)
       ·rw [if_pos c7] at H
        have c7b0 : decide (x6_2 < (l0.length : Int)) = true := decide_eq_true c7
        clear c7
        by_cases c8 : x5_2 = true
        ·subst c8
         have H1 : (if 0 ≤ x6_2 then (if 0 ≤ x4_1 then (if x4_1 < (l0.length : Int) then (if (rd l0 x6_2) = (rd l0 x4_1) then (zE.l1 k2 l0 x3_1 x4_1 true (wrap64 (x6_2 + 1))) else (zE.l1 k2 l0 x3_1 x4_1 ((Go.bits .and .i64 (rd l0 x6_2) (rd l0 x4_1)) != (rd l0 x6_2)) (wrap64 (x6_2 + 1)))) else (none)) else (none)) else (none)) = some r := by rw [if_pos rfl] at H; exact H
         clear H
         have H := H1
         clear H1
         by_cases c9 : 0 ≤ x6_2
         ·rw [if_pos c9] at H
          have c9b0 : decide (0 ≤ x6_2) = true := decide_eq_true c9
          clear c9
          by_cases c10 : 0 ≤ x4_1
          ·rw [if_pos c10] at H
           have c10b0 : decide (0 ≤ x4_1) = true := decide_eq_true c10
           clear c10
           by_cases c11 : x4_1 < (l0.length : Int)
           ·rw [if_pos c11] at H
            have c11b0 : decide (x4_1 < (l0.length : Int)) = true := decide_eq_true c11
            clear c11
            by_cases c12 : (rd l0 x6_2) = (rd l0 x4_1)
            ·rw [if_pos c12] at H
             have c12b0 : ((rd l0 x6_2) == (rd l0 x4_1)) = true := beq_iff_eq.mpr c12
             have c12b1 : ((rd l0 x6_2) != (rd l0 x4_1)) = false := bne_eq_false_iff_eq.mpr c12
             clear c12
             have H' := Aside0.mk H
             clear H
             have p169 : 0 ≤ (x6_2 : Int) := of_decide_eq_true sqA
             have q169 : x6_2 < (l0.length : Int) := of_decide_eq_true sqA
             obtain ⟨ad169, e169, hx169_0⟩ := Kd.zT HR0.out x6_2 p169 q169
             cases e169
             replace hx169_0 := (HB.out.cell (World.block_lt_of_cell? w _ hx169_0)).trans hx169_0
             replace p169 := eq_true p169
             replace q169 := eq_true q169
             have p170 : 0 ≤ (x4_1 : Int) := of_decide_eq_true sqA
             have q170 : x4_1 < (l0.length : Int) := of_decide_eq_true sqA
             obtain ⟨ad170, e170, hx170_0⟩ := Kd.zT HR0.out x4_1 p170 q170
             obtain rfl : ad169 = ad170 := (by injection e170)
             replace hx170_0 := (HB.out.cell (World.block_lt_of_cell? w _ hx170_0)).trans hx170_0
             replace p170 := eq_true p170
             replace q170 := eq_true q170
             go_wp2
             repeat (go_quiet (fail); try go_wp2)
             go_roundg k2
             case measure => have := HK1.out; have := HK2.out; omega
             case rel => exact ⟨(true), (wrap64 (x6_2 + 1)), (sqD), (sqD), H', ⟨by have := HK1.out; have := HK2.out; omega⟩, ⟨sqR HO_3.out⟩, ⟨sqB⟩⟩
            ·rw [if_neg c12] at H
             have c12b0 : ((rd l0 x6_2) == (rd l0 x4_1)) = false := beq_eq_false_iff_ne.mpr c12
             have c12b1 : ((rd l0 x6_2) != (rd l0 x4_1)) = true := bne_iff_ne.mpr c12
             have H' := Aside0.mk H
             clear H
             have p169 : 0 ≤ (x6_2 : Int) := of_decide_eq_true sqA
             have q169 : x6_2 < (l0.length : Int) := of_decide_eq_true sqA
             obtain ⟨ad169, e169, hx169_0⟩ := Kd.zT HR0.out x6_2 p169 q169
             cases e169
             replace hx169_0 := (HB.out.cell (World.block_lt_of_cell? w _ hx169_0)).trans hx169_0
             replace p169 := eq_true p169
             replace q169 := eq_true q169
             have p170 : 0 ≤ (x4_1 : Int) := of_decide_eq_true sqA
             have q170 : x4_1 < (l0.length : Int) := of_decide_eq_true sqA
             obtain ⟨ad170, e170, hx170_0⟩ := Kd.zT HR0.out x4_1 p170 q170
             obtain rfl : ad169 = ad170 := (by injection e170)
             replace hx170_0 := (HB.out.cell (World.block_lt_of_cell? w _ hx170_0)).trans hx170_0
             replace p170 := eq_true p170
             replace q170 := eq_true q170
             have p171 : 0 ≤ (x6_2 : Int) := of_decide_eq_true sqA
             have q171 : x6_2 < (l0.length : Int) := of_decide_eq_true sqA
             obtain ⟨ad171, e171, hx171_0⟩ := Kd.zT HR0.out x6_2 p171 q171
             obtain rfl : ad169 = ad171 := (by injection e171)
             replace hx171_0 := (HB.out.cell (World.block_lt_of_cell? w _ hx171_0)).trans hx171_0
             replace p171 := eq_true p171
             replace q171 := eq_true q171
             have p172 : 0 ≤ (x4_1 : Int) := of_decide_eq_true sqA
             have q172 : x4_1 < (l0.length : Int) := of_decide_eq_true sqA
             obtain ⟨ad172, e172, hx172_0⟩ := Kd.zT HR0.out x4_1 p172 q172
             obtain rfl : ad169 = ad172 := (by injection e172)
             replace hx172_0 := (HB.out.cell (World.block_lt_of_cell? w _ hx172_0)).trans hx172_0
             replace p172 := eq_true p172
             replace q172 := eq_true q172
             have p173 : 0 ≤ (x6_2 : Int) := of_decide_eq_true sqA
             have q173 : x6_2 < (l0.length : Int) := of_decide_eq_true sqA
             obtain ⟨ad173, e173, hx173_0⟩ := Kd.zT HR0.out x6_2 p173 q173
             obtain rfl : ad169 = ad173 := (by injection e173)
             replace hx173_0 := (HB.out.cell (World.block_lt_of_cell? w _ hx173_0)).trans hx173_0
             replace p173 := eq_true p173
             replace q173 := eq_true q173
             go_wp2
             repeat (go_quiet (fail); try go_wp2)
             go_roundg k2
             case measure => have := HK1.out; have := HK2.out; omega
             case rel => exact ⟨(((Go.bits .and .i64 (rd l0 x6_2) (rd l0 x4_1)) != (rd l0 x6_2))), (wrap64 (x6_2 + 1)), (sqD), (sqD), H', ⟨by have := HK1.out; have := HK2.out; omega⟩, ⟨sqR HO_3.out⟩, ⟨sqB⟩⟩
           ·rw [if_neg c11] at H
            exact absurd H (by simp)
          ·rw [if_neg c10] at H
           exact absurd H (by simp)
         ·rw [if_neg c9] at H
          exact absurd H (by simp)
        ·replace c8 := Bool.eq_false_iff.mpr c8
         subst c8
         have H1 : (zE.l1 k2 l0 x3_1 x4_1 false (wrap64 (x6_2 + 1))) = some r := by rw [if_neg (show ¬ (false = true) by decide)] at H; exact H
         clear H
         have H := H1
         clear H1
         have H' := Aside0.mk H
         clear H
         go_wp2
         repeat (go_quiet (fail); try go_wp2)
         go_roundg k2
         case measure => have := HK1.out; have := HK2.out; omega
         case rel => exact ⟨(false), (wrap64 (x6_2 + 1)), (sqD), (sqD), H', ⟨by have := HK1.out; have := HK2.out; omega⟩, ⟨sqR HO_3.out⟩, ⟨sqB⟩⟩
       ·rw [if_neg c7] at H
        have c7b0 : decide (x6_2 < (l0.length : Int)) = false := decide_eq_false c7
        clear c7
        by_cases c13 : x5_2 = true
        ·subst c13
         have H1 : (if 0 ≤ x4_1 then (if x4_1 < (l0.length : Int) then (if x3_1.length < 17592186044416 then (zE.l0 k2 l0 (x3_1 ++ [rd l0 x4_1]) (wrap64 (x4_1 + 1))) else (none)) else (none)) else (none)) = some r := by rw [if_pos rfl] at H; exact H
         clear H
         have H := H1
         clear H1
         by_cases c14 : 0 ≤ x4_1
         ·rw [if_pos c14] at H
          have c14b0 : decide (0 ≤ x4_1) = true := decide_eq_true c14
          clear c14
          by_cases c15 : x4_1 < (l0.length : Int)
          ·rw [if_pos c15] at H
           have c15b0 : decide (x4_1 < (l0.length : Int)) = true := decide_eq_true c15
           clear c15
           by_cases c16 : x3_1.length < 17592186044416
           ·rw [if_pos c16] at H
            have LMc16 := Aside0.mk c16
            clear c16
            obtain ⟨y175, hy175⟩ : ∃ y_ : List Int, y_ = (x3_1 ++ [rd l0 x4_1]) := ⟨_, rfl⟩
            replace H : (zE.l0 k2 l0 y175 (wrap64 (x4_1 + 1))) = some r := by first | (rw [hy175]; with_reducible exact H) | (have H2_ := (Option.bind_some _ _).symm.trans H; rw [hy175]; with_reducible exact H2_) | (have H2_ := (Option.bind_some _ _).symm.trans H; with_reducible exact H2_) | with_reducible exact H | (rw [hy175]; exact H) | exact H
            have Ny175 := Aside0.mk hy175
            clear hy175
            have H' := Aside0.mk H
            clear H
            have p174 : 0 ≤ (x4_1 : Int) := of_decide_eq_true sqA
            have q174 : x4_1 < (l0.length : Int) := of_decide_eq_true sqA
            obtain ⟨ad174, e174, hx174_0⟩ := Kd.zT HR0.out x4_1 p174 q174
            cases e174
            replace hx174_0 := (HB.out.cell (World.block_lt_of_cell? w _ hx174_0)).trans hx174_0
            replace p174 := eq_true p174
            replace q174 := eq_true q174
            go_wp2_with (first | ((with_reducible refine qB (b := .append) (xs := #[.tmp 53, .tmp 58]) rfl ?_); at_builtin; refine Kd.ji (Kd.int .i64) (w0 := w) w.heap.size rfl (.tmp 53) (.tmp 58) 22 3 (.int .i64 0) 8 rfl Tryz.underlying22 jH rfl (by decide) (by omega) u3 x3_1 (rd l0 x4_1) [.int .i64 (rd l0 x4_1)] (fun _ => True) (fun _ => False) rfl rfl ?aP (fun _ hk => hk.elim) ?aF ?aO ?aB ?aS ?aL ?_; (case aP => exact rfl); (case aB => exact sqB); (case aF => exact (fun _ _ => trivial)); (case aO => exact (sqR HO_3.out)); (case aS => exact (zh sqB)); (case aL => have := LMc16.out; omega); intro v176 w17 ho hb hg hat; rw [← Ny175.out] at ho; have n0_ := Aside0.mk (hb); have n1_ := Aside0.mk (ho); clear HB; clear HO_3; have HB := n0_; have HO177 := n1_; clear n0_ n1_; clear ho hb hg hat))
            repeat (go_quiet (first | ((with_reducible refine qB (b := .append) (xs := #[.tmp 53, .tmp 58]) rfl ?_); at_builtin; refine Kd.ji (Kd.int .i64) (w0 := w) w.heap.size rfl (.tmp 53) (.tmp 58) 22 3 (.int .i64 0) 8 rfl Tryz.underlying22 jH rfl (by decide) (by omega) u3 x3_1 (rd l0 x4_1) [.int .i64 (rd l0 x4_1)] (fun _ => True) (fun _ => False) rfl rfl ?aP (fun _ hk => hk.elim) ?aF ?aO ?aB ?aS ?aL ?_; (case aP => exact rfl); (case aB => exact sqB); (case aF => exact (fun _ _ => trivial)); (case aO => exact (sqR HO_3.out)); (case aS => exact (zh sqB)); (case aL => have := LMc16.out; omega); intro v176 w17 ho hb hg hat; rw [← Ny175.out] at ho; have n0_ := Aside0.mk (hb); have n1_ := Aside0.mk (ho); clear HB; clear HO_3; have HB := n0_; have HO177 := n1_; clear n0_ n1_; clear ho hb hg hat)); try go_wp2_with (first | ((with_reducible refine qB (b := .append) (xs := #[.tmp 53, .tmp 58]) rfl ?_); at_builtin; refine Kd.ji (Kd.int .i64) (w0 := w) w.heap.size rfl (.tmp 53) (.tmp 58) 22 3 (.int .i64 0) 8 rfl Tryz.underlying22 jH rfl (by decide) (by omega) u3 x3_1 (rd l0 x4_1) [.int .i64 (rd l0 x4_1)] (fun _ => True) (fun _ => False) rfl rfl ?aP (fun _ hk => hk.elim) ?aF ?aO ?aB ?aS ?aL ?_; (case aP => exact rfl); (case aB => exact sqB); (case aF => exact (fun _ _ => trivial)); (case aO => exact (sqR HO_3.out)); (case aS => exact (zh sqB)); (case aL => have := LMc16.out; omega); intro v176 w17 ho hb hg hat; rw [← Ny175.out] at ho; have n0_ := Aside0.mk (hb); have n1_ := Aside0.mk (ho); clear HB; clear HO_3; have HB := n0_; have HO177 := n1_; clear n0_ n1_; clear ho hb hg hat)))
            go_roundg k2
            case measure => have := HK1.out; have := HK2.out; omega
            case rel => exact ⟨(y175), (wrap64 (x4_1 + 1)), (sqD), H', ⟨by have := HK1.out; have := HK2.out; omega⟩, ⟨sqR HO177.out⟩, ⟨sqB⟩⟩
           ·rw [if_neg c16] at H
            exact absurd H (by simp)
          ·rw [if_neg c15] at H
           exact absurd H (by simp)
         ·rw [if_neg c14] at H
          exact absurd H (by simp)
        ·replace c13 := Bool.eq_false_iff.mpr c13
         subst c13
         have H1 : (zE.l0 k2 l0 x3_1 (wrap64 (x4_1 + 1))) = some r := by rw [if_neg (show ¬ (false = true) by decide)] at H; exact H
         clear H
         have H := H1
         clear H1
         have H' := Aside0.mk H
         clear H
         go_wp2
         repeat (go_quiet (fail); try go_wp2)
         go_roundg k2
         case measure => have := HK1.out; have := HK2.out; omega
         case rel => exact ⟨(x3_1), (wrap64 (x4_1 + 1)), (sqD), H', ⟨by have := HK1.out; have := HK2.out; omega⟩, ⟨sqR HO_3.out⟩, ⟨sqB⟩⟩
    ·rw [if_neg c6] at H
     have c6b0 : decide (x4_1 < (l0.length : Int)) = false := decide_eq_false c6
     clear c6
     replace H := Option.bind_eq_some_iff.mp H
     obtain ⟨t166, A180, H⟩ := H
     replace H : (some t166) = some r := H
     have A18 := Aside0.mk A180
     clear A180
     obtain rfl := Option.some.inj H
     obtain ⟨Ao19, co19, eo19⟩ := Kd.zK HO_3.out
     subst eo19
     go_wp2_with (first | (go_at_call 33; (try simp only [zi, zj]); (with_reducible refine (zk.calls k1 _ _ x3_1 t166 _ ?side1 ?side2 A18.out).mono ?_); (case side1 => exact sqC (Kd.zg HO_3.out).2.2); (case side2 => exact (Kd.zg HO_3.out).2.1); rintro e w20 ⟨v167, rfl, ho0, hb⟩; have n0_ := Aside0.mk (Kd.zw (sqR HO_3.out) (Kd.zQ ho0) hb); have n1_ := Aside0.mk (Kd.zD (Kd.zP ho0 (Kd.qt (sqR HO_3.out))) (zh sqB)); have n2_ := Aside0.mk (zc sqB hb); clear HO_3; clear HB; have HO_3 := n0_; have HO168 := n1_; have HB := n2_; clear n0_ n1_ n2_; (try clear hb); (try clear hb2); (try clear hk); (try clear hi); (try clear ho0)))
     repeat (go_quiet (first | (go_at_call 33; (try simp only [zi, zj]); (with_reducible refine (zk.calls k1 _ _ x3_1 t166 _ ?side1 ?side2 A18.out).mono ?_); (case side1 => exact sqC (Kd.zg HO_3.out).2.2); (case side2 => exact (Kd.zg HO_3.out).2.1); rintro e w20 ⟨v167, rfl, ho0, hb⟩; have n0_ := Aside0.mk (Kd.zw (sqR HO_3.out) (Kd.zQ ho0) hb); have n1_ := Aside0.mk (Kd.zD (Kd.zP ho0 (Kd.qt (sqR HO_3.out))) (zh sqB)); have n2_ := Aside0.mk (zc sqB hb); clear HO_3; clear HB; have HO_3 := n0_; have HO168 := n1_; have HB := n2_; clear n0_ n1_ n2_; (try clear hb); (try clear hb2); (try clear hk); (try clear hi); (try clear ho0))); try go_wp2_with (first | (go_at_call 33; (try simp only [zi, zj]); (with_reducible refine (zk.calls k1 _ _ x3_1 t166 _ ?side1 ?side2 A18.out).mono ?_); (case side1 => exact sqC (Kd.zg HO_3.out).2.2); (case side2 => exact (Kd.zg HO_3.out).2.1); rintro e w20 ⟨v167, rfl, ho0, hb⟩; have n0_ := Aside0.mk (Kd.zw (sqR HO_3.out) (Kd.zQ ho0) hb); have n1_ := Aside0.mk (Kd.zD (Kd.zP ho0 (Kd.qt (sqR HO_3.out))) (zh sqB)); have n2_ := Aside0.mk (zc sqB hb); clear HO_3; clear HB; have HO_3 := n0_; have HO168 := n1_; have HB := n2_; clear n0_ n1_ n2_; (try clear hb); (try clear hb2); (try clear hk); (try clear hi); (try clear ho0))))
     go_ret
     exact ⟨_, sqE, by refine sqR ?_; exact Kd.zn HO168.out (fun _ hk => trivial), sqB⟩
 ·replace c3 := Bool.eq_false_iff.mpr c3
  subst c3
  have H1 : (some y162) = some r := by rw [if_neg (show ¬ (false = true) by decide)] at H; exact H
  clear H
  have H := H1
  clear H1
  obtain rfl := Option.some.inj H
  go_enter Tryz.func29, Tryz.ntmps29
  go_wp2_with (first | ((with_reducible refine zm (N := 7) rfl ?_); refine Kd.jy (Kd.int .i64) _ 3 ?hg (N := 7) ?hd (xs := ([] : List Int)) (inner := []) (ok := fun _ => True) (okp := fun _ => True) ?hr ?hp (fun _ hk => hk) trivial (Below.refl _ _) (Nat.le_refl _) (by simp) ?_; (case hd => rfl); (case hg => rfl); (case hr => exact sqG); (case hp => exact (qK.none _ _)); intro v163 w21 ho22 hb hg_ hnew_; clear hg_ hnew_; (first | rw [← Ny162.out] at ho22 | (simp only [Int.reduceToNat] at ho22; rw [← Ny162.out] at ho22)); have n0_ := Aside0.mk (Kd.zD ho22 (zh sqB)); have n1_ := Aside0.mk (zc sqB hb); clear HB; have HO164 := n0_; have HB := n1_; clear n0_ n1_; clear hb ho22) | (go_at_call 32; (try simp only [zi, zj]); (with_reducible refine (qa.calls k 8 _ _ l0 false _ ?side1 ?side2 A2.out).mono ?_); (case side1 => exact sqC (Kd.zt HR0.out HB.out)); (case side2 => exact HC0.out); rintro e w' ⟨rfl, ⟨nd, rfl⟩⟩; (try first | exact ⟨rfl, _, World.drewN_drewN _ _ _⟩ | exact ⟨rfl, _, Eq.trans (World.drewN_drewN _ _ _) (congrArg (World.drewN _) (Nat.add_assoc _ _ _))⟩)))
  repeat (go_quiet (first | ((with_reducible refine zm (N := 7) rfl ?_); refine Kd.jy (Kd.int .i64) _ 3 ?hg (N := 7) ?hd (xs := ([] : List Int)) (inner := []) (ok := fun _ => True) (okp := fun _ => True) ?hr ?hp (fun _ hk => hk) trivial (Below.refl _ _) (Nat.le_refl _) (by simp) ?_; (case hd => rfl); (case hg => rfl); (case hr => exact sqG); (case hp => exact (qK.none _ _)); intro v163 w21 ho22 hb hg_ hnew_; clear hg_ hnew_; (first | rw [← Ny162.out] at ho22 | (simp only [Int.reduceToNat] at ho22; rw [← Ny162.out] at ho22)); have n0_ := Aside0.mk (Kd.zD ho22 (zh sqB)); have n1_ := Aside0.mk (zc sqB hb); clear HB; have HO164 := n0_; have HB := n1_; clear n0_ n1_; clear hb ho22) | (go_at_call 32; (try simp only [zi, zj]); (with_reducible refine (qa.calls k 8 _ _ l0 false _ ?side1 ?side2 A2.out).mono ?_); (case side1 => exact sqC (Kd.zt HR0.out HB.out)); (case side2 => exact HC0.out); rintro e w' ⟨rfl, ⟨nd, rfl⟩⟩; (try first | exact ⟨rfl, _, World.drewN_drewN _ _ _⟩ | exact ⟨rfl, _, Eq.trans (World.drewN_drewN _ _ _) (congrArg (World.drewN _) (Nat.add_assoc _ _ _))⟩))); try go_wp2_with (first | ((with_reducible refine zm (N := 7) rfl ?_); refine Kd.jy (Kd.int .i64) _ 3 ?hg (N := 7) ?hd (xs := ([] : List Int)) (inner := []) (ok := fun _ => True) (okp := fun _ => True) ?hr ?hp (fun _ hk => hk) trivial (Below.refl _ _) (Nat.le_refl _) (by simp) ?_; (case hd => rfl); (case hg => rfl); (case hr => exact sqG); (case hp => exact (qK.none _ _)); intro v163 w21 ho22 hb hg_ hnew_; clear hg_ hnew_; (first | rw [← Ny162.out] at ho22 | (simp only [Int.reduceToNat] at ho22; rw [← Ny162.out] at ho22)); have n0_ := Aside0.mk (Kd.zD ho22 (zh sqB)); have n1_ := Aside0.mk (zc sqB hb); clear HB; have HO164 := n0_; have HB := n1_; clear n0_ n1_; clear hb ho22) | (go_at_call 32; (try simp only [zi, zj]); (with_reducible refine (qa.calls k 8 _ _ l0 false _ ?side1 ?side2 A2.out).mono ?_); (case side1 => exact sqC (Kd.zt HR0.out HB.out)); (case side2 => exact HC0.out); rintro e w' ⟨rfl, ⟨nd, rfl⟩⟩; (try first | exact ⟨rfl, _, World.drewN_drewN _ _ _⟩ | exact ⟨rfl, _, Eq.trans (World.drewN_drewN _ _ _) (congrArg (World.drewN _) (Nat.add_assoc _ _ _))⟩))))
  go_ret
  exact ⟨_, sqE, sqR HO164.out, sqB⟩

def qI.f (a0 : Int) (a1 : Int) : Option (Bool) := if 0 ≤ (IntKind.u64.wrap (a1)) then (some ((Go.bits .and .i64 (shr .i64 a0 (IntKind.u64.wrap (a1))) 1) == 1)) else (none)
theorem qI.calls (a0 : Int) (a1 : Int) (r : Bool) (w : World) (h : qI.f a0 a1 = some r) :
  Calls Tryz.prog 67 #[.int .i64 a0, .int .i64 a1] w fun e w' => e = .returned (.bool r) ∧ zl w w' := by
 have H : (if 0 ≤ (IntKind.u64.wrap (a1)) then (some ((Go.bits .and .i64 (shr .i64 a0 (IntKind.u64.wrap (a1))) 1) == 1)) else (none)) = some r := h
 clear h
 obtain ⟨ji3, hji3⟩ : ∃ j_ : Int, (IntKind.u64.wrap (a1)) = j_ := ⟨_, rfl⟩
 replace H : (if 0 ≤ (ji3) then (some ((Go.bits .and .i64 (shr .i64 a0 (ji3)) 1) == 1)) else (none)) = some r := by first | (rw [hji3] at H; exact H) | (simp only [hji3] at H ⊢; exact H)
 by_cases c4 : 0 ≤ (ji3)
 ·rw [if_pos c4] at H
  have c4b0 := eq_true c4
  have c4b1 : decide (0 ≤ (ji3)) = true := decide_eq_true c4
  clear c4
  obtain ⟨ji5, hji5⟩ : ∃ j_ : Int, (shr .i64 a0 (ji3)) = j_ := ⟨_, rfl⟩
  replace H : (some ((Go.bits .and .i64 (ji5) 1) == 1)) = some r := by first | (rw [hji5] at H; exact H) | (simp only [hji5] at H ⊢; exact H)
  have hji5_ : (a0 / 2 ^ min (ji3).toNat 64) = ji5 := hji5
  have hji5z : (ji3) ≤ 64 → (a0 / 2 ^ (ji3).toNat) = ji5 := JO hji5
  obtain rfl := Option.some.inj H
  go_enter Tryz.func67, Tryz.ntmps67
  go_wp2
  go_ret
  exact ⟨by first | rfl | (simp; done) | (simp only [← hji3, ← hji5] <;> (first | rfl | simp)) | (simp [*]; done), by repeat (first | exact zl.refl _ | apply zl.step)⟩
 ·rw [if_neg c4] at H
  exact absurd H (by simp)

def zL.l0 : Nat → Int → Int → Int → Int → Int → List Int → Option (Bool)
 | 0, _, _, _, _, _, _ => none
 | k + 1, x1, x2, x3, x9, x179000, x179001 => if x9 < x179000 then ((qI.f x2 x9).bind fun t179 => (if t179 = true then ((qI.f x1 x9).bind fun t180 => (if t180 = true then (zL.l0 k x1 x2 x3 (wrap64 (x9 + 1)) x179000 x179001) else (if 0 ≤ (IntKind.u64.wrap (x3)) then (if 0 ≤ (IntKind.u64.wrap (x9)) then ((qd.f k x179001 (wrap64 ((wrap64 (x1 - (shl .i64 1 (IntKind.u64.wrap (x3))))) + (shl .i64 1 (IntKind.u64.wrap (x9)))))).bind fun t181 => (if t181 = true then (some true) else (zL.l0 k x1 x2 x3 (wrap64 (x9 + 1)) x179000 x179001))) else (none)) else (none)))) else (zL.l0 k x1 x2 x3 (wrap64 (x9 + 1)) x179000 x179001))) else (some false)
def zL.f (k : Nat) (a0_0 : Int) (l0_1 : List Int) (a1 : Int) (a2 : Int) (a3 : Int) : Option (Bool) := zL.l0 k a1 a2 a3 0 a0_0 l0_1
theorem zL.calls (k : Nat) (a0_0 : Int) (A0_1 : Option Addr) (c0_1 : Nat) (l0_1 : List Int) (a1 : Int) (a2 : Int) (a3 : Int) (r : Bool) (w : World) (hr0_1 : Kd.C (Kd.int .i64) w A0_1 l0_1.length l0_1) (hc0_1 : l0_1.length ≤ c0_1) (h : zL.f k a0_0 l0_1 a1 a2 a3 = some r) :
  Calls Tryz.prog 68 #[.agg #[.int .i64 a0_0, .slice A0_1 l0_1.length c0_1], .int .i64 a1, .int .i64 a2, .int .i64 a3] w fun e w' => e = .returned (.bool r) ∧ Below w.heap.size w w' := by
 have hu24 := Tryz.underlying24
 have HR0_1 := Aside0.mk hr0_1
 have HC0_1 := Aside0.mk hc0_1
 clear hr0_1 hc0_1
 have HB := Aside0.mk (Below.refl w.heap.size w)
 have H : (zL.l0 k a1 a2 a3 0 a0_0 l0_1) = some r := h
 clear h
 have H' := Aside0.mk H
 clear H
 go_enter Tryz.func68, Tryz.ntmps68
 go_wp2_with (first | ((with_reducible refine zm (N := 4) rfl ?_); refine zq ?hg (N := 4) ?hd (cs := #[.int .i64 a0_0, .slice A0_1 l0_1.length c0_1]) (t := 24) ?hr ?_; (case hd => rfl); (case hg => rfl); (case hr => exact sqG); intro gb178 hg w5 hbox hb; have n0_ := Aside0.mk (zc sqB hb); have n1_ := Aside0.mk (hbox); have n2_ := Aside0.mk ((sqS hg : w.heap.size ≤ gb178)); have n3_ := Aside0.mk ((sqS hg : w.heap.size ≤ gb178)); clear HB; have HB := n0_; have BK178 := n1_; have GW178 := n2_; have GE178 := n3_; clear n0_ n1_ n2_ n3_; clear hb hbox hg))
 go_loopg [9] k (fun kq v9 w' => ∃ (x9_1 : Int), v9 = .int .i64 x9_1 ∧ Aside0 (zL.l0 kq a1 a2 a3 x9_1 a0_0 l0_1 = some r) ∧ Aside0 (kq ≤ k) ∧ Aside0 (w'.heap[gb178]? = some (.cells #[.int .i64 a0_0, (.slice A0_1 l0_1.length c0_1)] 24 (0, 0))) ∧ Aside0 (Below w.heap.size w w'))
 case atStart => exact ⟨(0), (sqD), H', ⟨Nat.le_refl _⟩, ⟨sqK BK178.out⟩, ⟨sqB⟩⟩
 case round =>
  clear H'
  try clear p2
  obtain ⟨x9_1, rfl, HA, HK1, BK178, HB⟩ := hrel
  cases gk with
  | zero => exact absurd HA.out (by simp [zL.l0])
  | succ k1 =>
   have H := HA.out
   clear HA
   simp only [zL.l0] at H
   by_cases c6 : x9_1 < a0_0
   ·rw [if_pos c6] at H
    have c6b0 : decide (x9_1 < a0_0) = true := decide_eq_true c6
    clear c6
    replace H := Option.bind_eq_some_iff.mp H
    obtain ⟨t179, A70, H⟩ := H
    replace H : (if t179 = true then ((qI.f a1 x9_1).bind fun t180 => (if t180 = true then (zL.l0 k1 a1 a2 a3 (wrap64 (x9_1 + 1)) a0_0 l0_1) else (if 0 ≤ (IntKind.u64.wrap (a3)) then (if 0 ≤ (IntKind.u64.wrap (x9_1)) then ((qd.f k1 l0_1 (wrap64 ((wrap64 (a1 - (shl .i64 1 (IntKind.u64.wrap (a3))))) + (shl .i64 1 (IntKind.u64.wrap (x9_1)))))).bind fun t181 => (if t181 = true then (some true) else (zL.l0 k1 a1 a2 a3 (wrap64 (x9_1 + 1)) a0_0 l0_1))) else (none)) else (none)))) else (zL.l0 k1 a1 a2 a3 (wrap64 (x9_1 + 1)) a0_0 l0_1)) = some r := H
    have A7 := Aside0.mk A70
    clear A70
    by_cases c8 : t179 = true
    ·subst c8
     have H1 : ((qI.f a1 x9_1).bind fun t180 => (if t180 = true then (zL.l0 k1 a1 a2 a3 (wrap64 (x9_1 + 1)) a0_0 l0_1) else (if 0 ≤ (IntKind.u64.wrap (a3)) then (if 0 ≤ (IntKind.u64.wrap (x9_1)) then ((qd.f k1 l0_1 (wrap64 ((wrap64 (a1 - (shl .i64 1 (IntKind.u64.wrap (a3))))) + (shl .i64 1 (IntKind.u64.wrap (x9_1)))))).bind fun t181 => (if t181 = true then (some true) else (zL.l0 k1 a1 a2 a3 (wrap64 (x9_1 + 1)) a0_0 l0_1))) else (none)) else (none)))) = some r := by rw [if_pos rfl] at H; exact H
     clear H
     have H := H1
     clear H1
     replace H := Option.bind_eq_some_iff.mp H
     obtain ⟨t180, A90, H⟩ := H
     replace H : (if t180 = true then (zL.l0 k1 a1 a2 a3 (wrap64 (x9_1 + 1)) a0_0 l0_1) else (if 0 ≤ (IntKind.u64.wrap (a3)) then (if 0 ≤ (IntKind.u64.wrap (x9_1)) then ((qd.f k1 l0_1 (wrap64 ((wrap64 (a1 - (shl .i64 1 (IntKind.u64.wrap (a3))))) + (shl .i64 1 (IntKind.u64.wrap (x9_1)))))).bind fun t181 => (if t181 = true then (some true) else (zL.l0 k1 a1 a2 a3 (wrap64 (x9_1 + 1)) a0_0 l0_1))) else (none)) else (none))) = some r := H
     have A9 := Aside0.mk A90
     clear A90
     by_cases c10 : t180 = true
     ·subst c10
      have H1 : (zL.l0 k1 a1 a2 a3 (wrap64 (x9_1 + 1)) a0_0 l0_1) = some r := by rw [if_pos rfl] at H; exact H
      clear H
      have H := H1
      clear H1
      have H' := Aside0.mk H
      clear H
      have hcz11_0 : wr.cell? ⟨gb178, 0, none⟩ = some (.int .i64 a0_0) := (za BK178.out 0).trans rfl
      have hcz11_1 : wr.cell? ⟨gb178, 1, none⟩ = some (.slice A0_1 l0_1.length c0_1) := (za BK178.out 1).trans rfl
      have hfz11_0 := zb BK178.out 0
      have hfz11_1 := zb BK178.out 1
      go_wp2_with (first | ((with_reducible refine ze (f := 67) rfl ?_); refine zv (some 18) rfl rfl Tryz.func67 (by kernel_rfl) rfl #[.int .i64 a2, .int .i64 x9_1] rfl sqM ?_; (with_reducible refine (qI.calls a2 x9_1 true _ A7.out).mono ?_); rintro e w' ⟨rfl, ⟨nd, rfl⟩⟩; refine ⟨_, rfl, ?_⟩) | (go_at_call 67; (try simp only [zi, zj]); (with_reducible refine (qI.calls a1 x9_1 true _ A9.out).mono ?_); rintro e w' ⟨rfl, ⟨nd, rfl⟩⟩))
      go_roundg k1
      case measure => have := HK1.out; omega
      case rel => exact ⟨(wrap64 (x9_1 + 1)), (sqD), H', ⟨by have := HK1.out; omega⟩, ⟨sqK BK178.out⟩, ⟨sqB⟩⟩
     ·replace c10 := Bool.eq_false_iff.mpr c10
      subst c10
      have H1 : (if 0 ≤ (IntKind.u64.wrap (a3)) then (if 0 ≤ (IntKind.u64.wrap (x9_1)) then ((qd.f k1 l0_1 (wrap64 ((wrap64 (a1 - (shl .i64 1 (IntKind.u64.wrap (a3))))) + (shl .i64 1 (IntKind.u64.wrap (x9_1)))))).bind fun t181 => (if t181 = true then (some true) else (zL.l0 k1 a1 a2 a3 (wrap64 (x9_1 + 1)) a0_0 l0_1))) else (none)) else (none)) = some r := by rw [if_neg (show ¬ (false = true) by decide)] at H; exact H
      clear H
      have H := H1
      clear H1
      obtain ⟨ji12, hji12⟩ : ∃ j_ : Int, (IntKind.u64.wrap (a3)) = j_ := ⟨_, rfl⟩
      replace H : (if 0 ≤ (ji12) then (if 0 ≤ (IntKind.u64.wrap (x9_1)) then ((qd.f k1 l0_1 (wrap64 ((wrap64 (a1 - (shl .i64 1 (ji12)))) + (shl .i64 1 (IntKind.u64.wrap (x9_1)))))).bind fun t181 => (if t181 = true then (some true) else (zL.l0 k1 a1 a2 a3 (wrap64 (x9_1 + 1)) a0_0 l0_1))) else (none)) else (none)) = some r := by first | (rw [hji12] at H; exact H) | (simp only [hji12] at H ⊢; exact H)
      (try rw [hji12] at A7)
      (try rw [hji12] at A9)
      by_cases c13 : 0 ≤ (ji12)
      ·rw [if_pos c13] at H
       have c13b0 := eq_true c13
       have c13b1 : decide (0 ≤ (ji12)) = true := decide_eq_true c13
       clear c13
       obtain ⟨ji14, hji14⟩ : ∃ j_ : Int, (shl .i64 1 (ji12)) = j_ := ⟨_, rfl⟩
       replace H : (if 0 ≤ (IntKind.u64.wrap (x9_1)) then ((qd.f k1 l0_1 (wrap64 ((wrap64 (a1 - (ji14))) + (shl .i64 1 (IntKind.u64.wrap (x9_1)))))).bind fun t181 => (if t181 = true then (some true) else (zL.l0 k1 a1 a2 a3 (wrap64 (x9_1 + 1)) a0_0 l0_1))) else (none)) = some r := by first | (rw [hji14] at H; exact H) | (simp only [hji14] at H ⊢; exact H)
       (try rw [hji14] at A7)
       (try rw [hji14] at A9)
       have hji14_ : (IntKind.i64.wrap (1 * 2 ^ min (ji12).toNat 64)) = ji14 := hji14
       have hji14z : (ji12) ≤ 64 → (IntKind.i64.wrap (1 * 2 ^ (ji12).toNat)) = ji14 := vB hji14
       have hji14u : (IntKind.i64.wrap (2 ^ min (ji12).toNat 64)) = ji14 := by have h_ := hji14_; rw [Int.one_mul] at h_; exact h_
       have hji14v : (ji12) ≤ 64 → (IntKind.i64.wrap (2 ^ (ji12).toNat)) = ji14 := fun hle_ => by have h_ := hji14z hle_; rw [Int.one_mul] at h_; exact h_
       have hji14y : (wrap64 (1 * 2 ^ min (ji12).toNat 64)) = ji14 := (zi _).symm.trans hji14_
       have hji14x : (ji12) ≤ 64 → (wrap64 (1 * 2 ^ (ji12).toNat)) = ji14 := fun h_ => (zi _).symm.trans (hji14z h_)
       obtain ⟨ji15, hji15⟩ : ∃ j_ : Int, (IntKind.u64.wrap (x9_1)) = j_ := ⟨_, rfl⟩
       replace H : (if 0 ≤ (ji15) then ((qd.f k1 l0_1 (wrap64 ((wrap64 (a1 - (ji14))) + (shl .i64 1 (ji15))))).bind fun t181 => (if t181 = true then (some true) else (zL.l0 k1 a1 a2 a3 (wrap64 (x9_1 + 1)) a0_0 l0_1))) else (none)) = some r := by first | (rw [hji15] at H; exact H) | (simp only [hji15] at H ⊢; exact H)
       (try rw [hji15] at A7)
       (try rw [hji15] at A9)
       by_cases c16 : 0 ≤ (ji15)
       ·rw [if_pos c16] at H
        have c16b0 := eq_true c16
        have c16b1 : decide (0 ≤ (ji15)) = true := decide_eq_true c16
        clear c16
        obtain ⟨ji17, hji17⟩ : ∃ j_ : Int, (shl .i64 1 (ji15)) = j_ := ⟨_, rfl⟩
        replace H : ((qd.f k1 l0_1 (wrap64 ((wrap64 (a1 - (ji14))) + (ji17)))).bind fun t181 => (if t181 = true then (some true) else (zL.l0 k1 a1 a2 a3 (wrap64 (x9_1 + 1)) a0_0 l0_1))) = some r := by first | (rw [hji17] at H; exact H) | (simp only [hji17] at H ⊢; exact H)
        (try rw [hji17] at A7)
        (try rw [hji17] at A9)
        have hji17_ : (IntKind.i64.wrap (1 * 2 ^ min (ji15).toNat 64)) = ji17 := hji17
        have hji17z : (ji15) ≤ 64 → (IntKind.i64.wrap (1 * 2 ^ (ji15).toNat)) = ji17 := vB hji17
        have hji17u : (IntKind.i64.wrap (2 ^ min (ji15).toNat 64)) = ji17 := by have h_ := hji17_; rw [Int.one_mul] at h_; exact h_
        have hji17v : (ji15) ≤ 64 → (IntKind.i64.wrap (2 ^ (ji15).toNat)) = ji17 := fun hle_ => by have h_ := hji17z hle_; rw [Int.one_mul] at h_; exact h_
        have hji17y : (wrap64 (1 * 2 ^ min (ji15).toNat 64)) = ji17 := (zi _).symm.trans hji17_
        have hji17x : (ji15) ≤ 64 → (wrap64 (1 * 2 ^ (ji15).toNat)) = ji17 := fun h_ => (zi _).symm.trans (hji17z h_)
        replace H := Option.bind_eq_some_iff.mp H
        obtain ⟨t181, A180, H⟩ := H
        replace H : (if t181 = true then (some true) else (zL.l0 k1 a1 a2 a3 (wrap64 (x9_1 + 1)) a0_0 l0_1)) = some r := H
        have A18 := Aside0.mk A180
        clear A180
        by_cases c19 : t181 = true
        ·subst c19
         have H1 : (some true) = some r := by rw [if_pos rfl] at H; exact H
         clear H
         have H := H1
         clear H1
         obtain rfl := Option.some.inj H
         have hcz20_0 : wr.cell? ⟨gb178, 0, none⟩ = some (.int .i64 a0_0) := (za BK178.out 0).trans rfl
         have hcz20_1 : wr.cell? ⟨gb178, 1, none⟩ = some (.slice A0_1 l0_1.length c0_1) := (za BK178.out 1).trans rfl
         have hfz20_0 := zb BK178.out 0
         have hfz20_1 := zb BK178.out 1
         go_wp2_with (first | ((with_reducible refine ze (f := 67) rfl ?_); refine zv (some 18) rfl rfl Tryz.func67 (by kernel_rfl) rfl #[.int .i64 a2, .int .i64 x9_1] rfl sqM ?_; (with_reducible refine (qI.calls a2 x9_1 true _ A7.out).mono ?_); rintro e w' ⟨rfl, ⟨nd, rfl⟩⟩; refine ⟨_, rfl, ?_⟩) | (go_at_call 67; (try simp only [zi, zj]); (with_reducible refine (qI.calls a1 x9_1 false _ A9.out).mono ?_); rintro e w' ⟨rfl, ⟨nd, rfl⟩⟩) | (go_at_call 13; (try simp only [zi, zj]); (with_reducible refine (qd.calls k1 _ _ l0_1 (wrap64 ((wrap64 (a1 - (ji14))) + (ji17))) true _ ?side1 ?side2 A18.out).mono ?_); (case side1 => exact sqC (Kd.zt HR0_1.out sqB)); (case side2 => exact HC0_1.out); rintro e w' ⟨rfl, ⟨nd, rfl⟩⟩))
         go_ret
         exact ⟨by first | rfl | (simp [yP, yR] <;> rfl) | (simp only [← hji12, ← hji14, ← hji15, ← hji17]; first | rfl | (simp [yP, yR] <;> rfl)) | (simp [*, yP, yR] <;> rfl), sqB⟩
        ·replace c19 := Bool.eq_false_iff.mpr c19
         subst c19
         have H1 : (zL.l0 k1 a1 a2 a3 (wrap64 (x9_1 + 1)) a0_0 l0_1) = some r := by rw [if_neg (show ¬ (false = true) by decide)] at H; exact H
         clear H
         have H := H1
         clear H1
         have H' := Aside0.mk H
         clear H
         have hcz21_0 : wr.cell? ⟨gb178, 0, none⟩ = some (.int .i64 a0_0) := (za BK178.out 0).trans rfl
         have hcz21_1 : wr.cell? ⟨gb178, 1, none⟩ = some (.slice A0_1 l0_1.length c0_1) := (za BK178.out 1).trans rfl
         have hfz21_0 := zb BK178.out 0
         have hfz21_1 := zb BK178.out 1
         go_wp2_with (first | ((with_reducible refine ze (f := 67) rfl ?_); refine zv (some 18) rfl rfl Tryz.func67 (by kernel_rfl) rfl #[.int .i64 a2, .int .i64 x9_1] rfl sqM ?_; (with_reducible refine (qI.calls a2 x9_1 true _ A7.out).mono ?_); rintro e w' ⟨rfl, ⟨nd, rfl⟩⟩; refine ⟨_, rfl, ?_⟩) | (go_at_call 67; (try simp only [zi, zj]); (with_reducible refine (qI.calls a1 x9_1 false _ A9.out).mono ?_); rintro e w' ⟨rfl, ⟨nd, rfl⟩⟩) | (go_at_call 13; (try simp only [zi, zj]); (with_reducible refine (qd.calls k1 _ _ l0_1 (wrap64 ((wrap64 (a1 - (ji14))) + (ji17))) false _ ?side1 ?side2 A18.out).mono ?_); (case side1 => exact sqC (Kd.zt HR0_1.out sqB)); (case side2 => exact HC0_1.out); rintro e w' ⟨rfl, ⟨nd, rfl⟩⟩))
         go_roundg k1
         case measure => have := HK1.out; omega
         case rel => exact ⟨(wrap64 (x9_1 + 1)), (sqD), H', ⟨by have := HK1.out; omega⟩, ⟨sqK BK178.out⟩, ⟨sqB⟩⟩
       ·rw [if_neg c16] at H
        exact absurd H (by simp)
      ·rw [if_neg c13] at H
       exact absurd H (by simp)
    ·replace c8 := Bool.eq_false_iff.mpr c8
     subst c8
     have H1 : (zL.l0 k1 a1 a2 a3 (wrap64 (x9_1 + 1)) a0_0 l0_1) = some r := by rw [if_neg (show ¬ (false = true) by decide)] at H; exact H
     clear H
     have H := H1
     clear H1
     have H' := Aside0.mk H
     clear H
     have hcz22_0 : wr.cell? ⟨gb178, 0, none⟩ = some (.int .i64 a0_0) := (za BK178.out 0).trans rfl
     have hcz22_1 : wr.cell? ⟨gb178, 1, none⟩ = some (.slice A0_1 l0_1.length c0_1) := (za BK178.out 1).trans rfl
     have hfz22_0 := zb BK178.out 0
     have hfz22_1 := zb BK178.out 1
     go_wp2_with (first | ((with_reducible refine ze (f := 67) rfl ?_); refine zv (some 18) rfl rfl Tryz.func67 (by kernel_rfl) rfl #[.int .i64 a2, .int .i64 x9_1] rfl sqM ?_; (with_reducible refine (qI.calls a2 x9_1 false _ A7.out).mono ?_); rintro e w' ⟨rfl, ⟨nd, rfl⟩⟩; refine ⟨_, rfl, ?_⟩))
     go_roundg k1
     case measure => have := HK1.out; omega
     case rel => exact ⟨(wrap64 (x9_1 + 1)), (sqD), H', ⟨by have := HK1.out; omega⟩, ⟨sqK BK178.out⟩, ⟨sqB⟩⟩
   ·rw [if_neg c6] at H
    have c6b0 : decide (x9_1 < a0_0) = false := decide_eq_false c6
    clear c6
    obtain rfl := Option.some.inj H
    have hcz23_0 : wr.cell? ⟨gb178, 0, none⟩ = some (.int .i64 a0_0) := (za BK178.out 0).trans rfl
    have hcz23_1 : wr.cell? ⟨gb178, 1, none⟩ = some (.slice A0_1 l0_1.length c0_1) := (za BK178.out 1).trans rfl
    have hfz23_0 := zb BK178.out 0
    have hfz23_1 := zb BK178.out 1
    go_wp2
    go_ret
    exact ⟨sqE, sqB⟩

def qw.l0 : Nat → Int → Int → Option (Int)
 | 0, _, _ => none
 | k + 1, x0, x3 => if x0 > 0 then (qw.l0 k (x0 / 2) (wrap64 (x3 + (Go.bits .and .i64 x0 1)))) else (some x3)
def qw.f (k : Nat) (a0 : Int) : Option (Int) := (qL.f 8 a0).bind fun t189 => (if t189 = true then (qw.l0 k a0 0) else (some 0))
theorem qw.calls (k : Nat) (a0 : Int) (r : Int) (w : World) (h : qw.f k a0 = some r) :
  Calls Tryz.prog 50 #[.int .i64 a0] w fun e w' => e = .returned (.int .i64 r) ∧ zl w w' := by
 have H : ((qL.f 8 a0).bind fun t189 => (if t189 = true then (qw.l0 k a0 0) else (some 0))) = some r := h
 clear h
 replace H := Option.bind_eq_some_iff.mp H
 obtain ⟨t189, A20, H⟩ := H
 replace H : (if t189 = true then (qw.l0 k a0 0) else (some 0)) = some r := H
 have A2 := Aside0.mk A20
 clear A20
 by_cases c3 : t189 = true
 ·subst c3
  have H1 : (qw.l0 k a0 0) = some r := by rw [if_pos rfl] at H; exact H
  clear H
  have H := H1
  clear H1
  have H' := Aside0.mk H
  clear H
  go_enter Tryz.func50, Tryz.ntmps50
  go_wp2_with (first | ((with_reducible refine ze (f := 26) rfl ?_); refine zv (some 5) rfl rfl Tryz.func26 (by kernel_rfl) rfl #[.int .i64 8, .int .i64 a0] rfl sqM ?_; (with_reducible refine (qL.calls 8 a0 true _ A2.out).mono ?_); rintro e w' ⟨rfl, ⟨nd, rfl⟩⟩; refine ⟨_, rfl, ?_⟩))
  go_loopg [0, 3] k (fun kq v0 v3 w' => ∃ (x0_1 : Int) (x3_1 : Int), v0 = .int .i64 x0_1 ∧ v3 = .int .i64 x3_1 ∧ Aside0 (qw.l0 kq x0_1 x3_1 = some r) ∧ Aside0 (kq ≤ k) ∧ zl w w')
  case atStart => exact ⟨(a0), (0), (sqD), (sqD), H', ⟨Nat.le_refl _⟩, by repeat (first | exact zl.refl _ | apply zl.step)⟩
  case round =>
   clear H'
   try clear c2
   try clear p2
   try clear c3
   obtain ⟨x0_1, x3_1, rfl, rfl, HA, HK1, ⟨m1, rfl⟩⟩ := hrel
   cases gk with
   | zero => exact absurd HA.out (by simp [qw.l0])
   | succ k1 =>
    have H := HA.out
    clear HA
    simp only [qw.l0] at H
    by_cases c4 : x0_1 > 0
    ·rw [if_pos c4] at H
     have c4b0 : decide (0 < x0_1) = true := decide_eq_true c4
     clear c4
     have H' := Aside0.mk H
     clear H
     go_wp2
     go_roundg k1
     case measure => have := HK1.out; omega
     case rel => exact ⟨(x0_1 / 2), (wrap64 (x3_1 + (Go.bits .and .i64 x0_1 1))), (sqD), (sqD), H', ⟨by have := HK1.out; omega⟩, by repeat (first | exact zl.refl _ | apply zl.step)⟩
    ·rw [if_neg c4] at H
     have c4b0 : decide (0 < x0_1) = false := decide_eq_false c4
     clear c4
     obtain rfl := Option.some.inj H
     go_wp2
     go_ret
     exact ⟨sqD, by repeat (first | exact zl.refl _ | apply zl.step)⟩
 ·replace c3 := Bool.eq_false_iff.mpr c3
  subst c3
  have H1 : (some 0) = some r := by rw [if_neg (show ¬ (false = true) by decide)] at H; exact H
  clear H
  have H := H1
  clear H1
  obtain rfl := Option.some.inj H
  go_enter Tryz.func50, Tryz.ntmps50
  go_wp2_with (first | ((with_reducible refine ze (f := 26) rfl ?_); refine zv (some 5) rfl rfl Tryz.func26 (by kernel_rfl) rfl #[.int .i64 8, .int .i64 a0] rfl sqM ?_; (with_reducible refine (qL.calls 8 a0 false _ A2.out).mono ?_); rintro e w' ⟨rfl, ⟨nd, rfl⟩⟩; refine ⟨_, rfl, ?_⟩))
  go_ret
  exact ⟨sqD, by repeat (first | exact zl.refl _ | apply zl.step)⟩

def vv.f (a0 : Int) (a1 : Int) : Option (Int) := if a0 > a1 then (some a0) else (some a1)
theorem vv.calls (a0 : Int) (a1 : Int) (r : Int) (w : World) (h : vv.f a0 a1 = some r) :
  Calls Tryz.prog 80 #[.int .i64 a0, .int .i64 a1] w fun e w' => e = .returned (.int .i64 r) ∧ zl w w' := by
 have H : (if a0 > a1 then (some a0) else (some a1)) = some r := h
 clear h
 by_cases c3 : a0 > a1
 ·rw [if_pos c3] at H
  have c3b0 : decide (a1 < a0) = true := decide_eq_true c3
  clear c3
  obtain rfl := Option.some.inj H
  go_enter Tryz.func80, Tryz.ntmps80
  go_wp2
  go_ret
  exact ⟨sqD, by repeat (first | exact zl.refl _ | apply zl.step)⟩
 ·rw [if_neg c3] at H
  have c3b0 : decide (a1 < a0) = false := decide_eq_false c3
  clear c3
  obtain rfl := Option.some.inj H
  go_enter Tryz.func80, Tryz.ntmps80
  go_wp2
  go_ret
  exact ⟨sqD, by repeat (first | exact zl.refl _ | apply zl.step)⟩

def qv.l0 : Nat → Int → Int → Int → Int → List Int → Option (Int)
 | 0, _, _, _, _, _ => none
 | k + 1, x1, x5, x6, x191000, x191001 => if x6 < (x191001.length : Int) then (if 0 ≤ x6 then ((qw.f k (Go.bits .and .i64 (rd x191001 x6) x1)).bind fun t192 => ((vv.f x5 t192).bind fun t193 => (qv.l0 k x1 t193 (wrap64 (x6 + 1)) x191000 x191001))) else (none)) else (some x5)
def qv.f (k : Nat) (a0_0 : Int) (l0_1 : List Int) (a1 : Int) : Option (Int) := qv.l0 k a1 0 0 a0_0 l0_1
theorem qv.calls (k : Nat) (a0_0 : Int) (A0_1 : Option Addr) (c0_1 : Nat) (l0_1 : List Int) (a1 : Int) (r : Int) (w : World) (hr0_1 : Kd.C (Kd.int .i64) w A0_1 l0_1.length l0_1) (hc0_1 : l0_1.length ≤ c0_1) (h : qv.f k a0_0 l0_1 a1 = some r) :
  Calls Tryz.prog 69 #[.agg #[.int .i64 a0_0, .slice A0_1 l0_1.length c0_1], .int .i64 a1] w fun e w' => e = .returned (.int .i64 r) ∧ Below w.heap.size w w' := by
 have hu24 := Tryz.underlying24
 have HR0_1 := Aside0.mk hr0_1
 have HC0_1 := Aside0.mk hc0_1
 clear hr0_1 hc0_1
 have HB := Aside0.mk (Below.refl w.heap.size w)
 have H : (qv.l0 k a1 0 0 a0_0 l0_1) = some r := h
 clear h
 have H' := Aside0.mk H
 clear H
 go_enter Tryz.func69, Tryz.ntmps69
 go_wp2_with (first | ((with_reducible refine zm (N := 2) rfl ?_); refine zq ?hg (N := 2) ?hd (cs := #[.int .i64 a0_0, .slice A0_1 l0_1.length c0_1]) (t := 24) ?hr ?_; (case hd => rfl); (case hg => rfl); (case hr => exact sqG); intro gb190 hg w3 hbox hb; have n0_ := Aside0.mk (zc sqB hb); have n1_ := Aside0.mk (hbox); have n2_ := Aside0.mk ((sqS hg : w.heap.size ≤ gb190)); have n3_ := Aside0.mk ((sqS hg : w.heap.size ≤ gb190)); clear HB; have HB := n0_; have BK190 := n1_; have GW190 := n2_; have GE190 := n3_; clear n0_ n1_ n2_ n3_; clear hb hbox hg))
 go_loopg [5, 6] k (fun kq v5 v6 w' => ∃ (x5_1 : Int) (x6_1 : Int), v5 = .int .i64 x5_1 ∧ v6 = .int .i64 x6_1 ∧ Aside0 (qv.l0 kq a1 x5_1 x6_1 a0_0 l0_1 = some r) ∧ Aside0 (kq ≤ k) ∧ Aside0 (w'.heap[gb190]? = some (.cells #[.int .i64 a0_0, (.slice A0_1 l0_1.length c0_1)] 24 (0, 0))) ∧ Aside0 (Below w.heap.size w w'))
 case atStart => exact ⟨(0), (0), (sqD), (sqD), H', ⟨Nat.le_refl _⟩, ⟨sqK BK190.out⟩, ⟨sqB⟩⟩
 case round =>
  clear H'
  try clear p2
  obtain ⟨x5_1, x6_1, rfl, rfl, HA, HK1, BK190, HB⟩ := hrel
  cases gk with
  | zero => exact absurd HA.out (by simp [qv.l0])
  | succ k1 =>
   have H := HA.out
   clear HA
   simp only [qv.l0] at H
   by_cases c4 : x6_1 < (l0_1.length : Int)
   ·rw [if_pos c4] at H
    have c4b0 : decide (x6_1 < (l0_1.length : Int)) = true := decide_eq_true c4
    clear c4
    by_cases c5 : 0 ≤ x6_1
    ·rw [if_pos c5] at H
     have c5b0 : decide (0 ≤ x6_1) = true := decide_eq_true c5
     clear c5
     replace H := Option.bind_eq_some_iff.mp H
     obtain ⟨t192, A60, H⟩ := H
     replace H : ((vv.f x5_1 t192).bind fun t193 => (qv.l0 k1 a1 t193 (wrap64 (x6_1 + 1)) a0_0 l0_1)) = some r := H
     have A6 := Aside0.mk A60
     clear A60
     replace H := Option.bind_eq_some_iff.mp H
     obtain ⟨t193, A70, H⟩ := H
     replace H : (qv.l0 k1 a1 t193 (wrap64 (x6_1 + 1)) a0_0 l0_1) = some r := H
     have A7 := Aside0.mk A70
     clear A70
     have H' := Aside0.mk H
     clear H
     have hcz8_0 : wr.cell? ⟨gb190, 0, none⟩ = some (.int .i64 a0_0) := (za BK190.out 0).trans rfl
     have hcz8_1 : wr.cell? ⟨gb190, 1, none⟩ = some (.slice A0_1 l0_1.length c0_1) := (za BK190.out 1).trans rfl
     have hfz8_0 := zb BK190.out 0
     have hfz8_1 := zb BK190.out 1
     have p191 : 0 ≤ (x6_1 : Int) := of_decide_eq_true sqA
     have q191 : x6_1 < (l0_1.length : Int) := of_decide_eq_true sqA
     obtain ⟨ad191, e191, hx191_0⟩ := Kd.zT HR0_1.out x6_1 p191 q191
     cases e191
     replace hx191_0 := (HB.out.cell (World.block_lt_of_cell? w _ hx191_0)).trans hx191_0
     replace p191 := eq_true p191
     replace q191 := eq_true q191
     go_wp2_with (first | ((with_reducible refine ze (f := 50) rfl ?_); refine zv (some 22) rfl rfl Tryz.func50 (by kernel_rfl) rfl #[.int .i64 (Go.bits .and .i64 (rd l0_1 x6_1) a1)] rfl sqM ?_; (with_reducible refine (qw.calls k1 (Go.bits .and .i64 (rd l0_1 x6_1) a1) t192 _ A6.out).mono ?_); rintro e w' ⟨rfl, ⟨nd, rfl⟩⟩; refine ⟨_, rfl, ?_⟩) | ((with_reducible refine ze (f := 80) rfl ?_); refine zv (some 23) rfl rfl Tryz.func80 (by kernel_rfl) rfl #[.int .i64 x5_1, .int .i64 t192] rfl sqM ?_; (with_reducible refine (vv.calls x5_1 t192 t193 _ A7.out).mono ?_); rintro e w' ⟨rfl, ⟨nd, rfl⟩⟩; refine ⟨_, rfl, ?_⟩))
     go_roundg k1
     case measure => have := HK1.out; omega
     case rel => exact ⟨(t193), (wrap64 (x6_1 + 1)), (sqD), (sqD), H', ⟨by have := HK1.out; omega⟩, ⟨sqK BK190.out⟩, ⟨sqB⟩⟩
    ·rw [if_neg c5] at H
     exact absurd H (by simp)
   ·rw [if_neg c4] at H
    have c4b0 : decide (x6_1 < (l0_1.length : Int)) = false := decide_eq_false c4
    clear c4
    obtain rfl := Option.some.inj H
    have hcz9_0 : wr.cell? ⟨gb190, 0, none⟩ = some (.int .i64 a0_0) := (za BK190.out 0).trans rfl
    have hcz9_1 : wr.cell? ⟨gb190, 1, none⟩ = some (.slice A0_1 l0_1.length c0_1) := (za BK190.out 1).trans rfl
    have hfz9_0 := zb BK190.out 0
    have hfz9_1 := zb BK190.out 1
    go_wp2
    go_ret
    exact ⟨sqE, sqB⟩

end Go.Proofs.YteggmbhcnhbamaaGreat.F
end
