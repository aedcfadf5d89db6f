/- Several texts of this session in one: Fx2, Fx3. Conditions: as each theorem says. -/
import Derived.Test.YtopkfhnnapncgaaZDualMatrix0
import Derived.Test.YtopkfhnnapncgaaZDualMatrix1
set_option maxHeartbeats 8000000
set_option maxRecDepth 100000
section
namespace Go.Proofs.Ytopkfhnnapncgaa.F
open Go.RowKit Go.Proofs.YtopkfhnnapncgaaW.PrintWords Go.Proofs.YtopkfhnnapncgaaW.PrintLast Go.Proofs.YtopkfhnnapncgaaW.PrintMore
attribute [local go_sem] jG jE jY j8 jl jk jK jM   -- for this text's walks alone
set_option linter.unusedVariables false
set_option linter.unusedSimpArgs false

def qa.l0 : Nat → List Int → Int → Int → Option (Int × List Int)
 | 0, _, _, _ => none
 | k + 1, x0, x1, x5 => if x5 < (x0.length : Int) then (if 0 ≤ x5 then (qa.l0 k (x0.set (x5 : Int).toNat x1) (wrap64 (x1 + 1)) (wrap64 (x5 + 1))) else (none)) else (some (x1, x0))
def qa.f (k : Nat) (l0 : List Int) (a1 : Int) : Option (Int × List Int) := qa.l0 k l0 a1 0
theorem qa.calls (k : Nat) (P0_ : Nat → Prop) (u9000_ : Value) (l0 : List Int) (a1 : Int) (r1 : Int) (r2 : List Int) (w0 w : World) (hB : Below w0.heap.size w0 w) (ho0 : Kd.R (Kd.int .i64) 3 w w0.heap.size P0_ u9000_ l0) (h : qa.f k l0 a1 = some (r1, r2)) :
  Calls Try.prog 53 #[u9000_, .int .i64 a1] w fun e w' => e = .returned (.int .i64 r1) ∧ Kd.R (Kd.int .i64) 3 w' w0.heap.size (fun k_ => (P0_ k_ ∨ w.heap.size ≤ k_)) u9000_ r2 ∧ Below w0.heap.size w0 w' ∧ Kept w w' (fun k_ => P0_ k_) := by
 have HO0 := Aside0.mk (show Kd.R (Kd.int .i64) 3 w w0.heap.size (fun k_ => (P0_ k_ ∨ w.heap.size ≤ k_)) u9000_ l0 from Kd.zo ho0 (fun k_ hk => (.inl hk)))
 have HK := Aside0.mk (Kept.refl w (fun k_ => P0_ k_))
 have HW0 := Aside0.mk hB.size
 have HB := Aside0.mk hB
 clear hB
 have H : (qa.l0 k l0 a1 0) = some (r1, r2) := h
 clear h
 have H' := Aside0.mk H
 clear H
 go_enter Try.func53, Try.ntmps53
 go_wp2
 go_loopg [1, 5] k (fun kq v1 v5 w' => ∃ (x0_1 : List Int) (x1_1 : Int) (x5_1 : Int), v1 = .int .i64 x1_1 ∧ v5 = .int .i64 x5_1 ∧ Aside0 (qa.l0 kq x0_1 x1_1 x5_1 = some (r1, r2)) ∧ Aside0 (kq ≤ k) ∧ Aside0 (Kd.R (Kd.int .i64) 3 w' w0.heap.size (fun k_ => (P0_ k_ ∨ w.heap.size ≤ k_)) u9000_ x0_1) ∧ Aside0 (Kept w w' (fun k_ => P0_ k_)) ∧ Aside0 (Below w0.heap.size w0 w'))
 case atStart => exact ⟨(l0), (a1), (0), (sqD), (sqD), H', ⟨Nat.le_refl _⟩, ⟨sqR HO0.out⟩, ⟨by repeat (first | (with_reducible first | exact HK.out | apply Kept.alloc | apply Kept.drewN | apply Kept.drew) | exact HK.out)⟩, ⟨sqB⟩⟩
 case round =>
  clear H'
  try clear p2
  obtain ⟨x0_1, x1_1, x5_1, rfl, rfl, HA, HK1, HO_0, HK, HB⟩ := hrel
  cases gk with
  | zero => exact absurd HA.out (by simp [qa.l0])
  | succ k1 =>
   have H := HA.out
   clear HA
   simp only [qa.l0] at H
   by_cases c3 : x5_1 < (x0_1.length : Int)
   ·rw [if_pos c3] at H
    have c3b0 : decide (x5_1 < (x0_1.length : Int)) = true := decide_eq_true c3
    clear c3
    by_cases c4 : 0 ≤ x5_1
    ·rw [if_pos c4] at H
     have c4b0 : decide (0 ≤ x5_1) = true := decide_eq_true c4
     clear c4
     obtain ⟨y119, hy119⟩ : ∃ y_ : List Int, y_ = (x0_1.set (x5_1 : Int).toNat x1_1) := ⟨_, rfl⟩
     replace H : (qa.l0 k1 y119 (wrap64 (x1_1 + 1)) (wrap64 (x5_1 + 1))) = some (r1, r2) := by first | (rw [hy119]; with_reducible exact H) | (have H2_ := (Option.bind_some _ _).symm.trans H; rw [hy119]; with_reducible exact H2_) | (have H2_ := (Option.bind_some _ _).symm.trans H; with_reducible exact H2_) | with_reducible exact H | (rw [hy119]; exact H) | exact H
     have Ny119 := Aside0.mk hy119
     clear hy119
     have H' := Aside0.mk H
     clear H
     obtain ⟨Ao6, co6, eo6⟩ := Kd.zU HO_0.out
     subst eo6
     have p5 : 0 ≤ (x5_1 : Int) := of_decide_eq_true sqA
     have q5 : (x5_1 : Int) < ((x0_1.length : Int) : Int) := of_decide_eq_true sqA
     obtain ⟨go5, co5, eo5, gb5, gl5, cl5, HG5⟩ := Kd.vq HO_0.out (by omega)
     (first | cases eo5 | (injection eo5 with ea_ en_ ec_; (first | subst ea_ | (injection ea_ with ea_; subst ea_)); subst ec_; clear en_))
     (try simp only [add_plain] at *)
     have GB5 := Aside0.mk gb5
     have GG5 := Aside0.mk HG5
     clear gb5 gl5 HG5
     have HMgo5 := Aside0.mk (show (P0_ go5 ∨ w.heap.size ≤ go5) from (HO_0.out.1 _ rfl))
     obtain ⟨hx5_0, hf5_0⟩ := Kd.qX 0 HO_0.out (x5_1 : Int) p5 q5
     replace p5 := eq_true p5
     replace q5 := eq_true q5
     have HP7 := Kd.ye HO_0.out (x5_1 : Int) x1_1
     go_wp2_with (first | ((with_reducible refine jH (t := 3) (p := 15) rfl ?_); refine jt (t := 3) (p := 15) (v := ?vo_w8) (w1 := (wr.setCell ⟨go5, (x5_1 : Int).toNat, none⟩ (.int .i64 x1_1))) ?hg ?ho ?hn ?hr ?_; (case ho => rfl); (case hg => rfl); (case hn => rfl); (case hr => exact sqG); intro w8 hw; have hg : wr.grownBy w8 (some go5) := (by rw [hw]; exact HP7.2); have hp_ : Kd.R (Kd.int .i64) 3 w8 w0.heap.size (fun k_ => (P0_ k_ ∨ w.heap.size ≤ k_)) (.slice (some ⟨go5, 0, none⟩) x0_1.length co6) y119 := (by rw [hw, Ny119.out]; exact HP7.1); clear HP7; have n0_ := Aside0.mk (hp_); have n1_ := Aside0.mk ((by rw [hw]; exact zO (HB.out) GB5.out : Below w0.heap.size w0 w8)); have n2_ := Aside0.mk (Kept.ZK (S := (fun k_ => P0_ k_)) hg (by repeat (first | (with_reducible first | exact HK.out | apply Kept.alloc | apply Kept.drewN | apply Kept.drew) | exact HK.out)) (fun k_ e_ => (HO_0.out.1 k_ e_))); clear HO_0; clear HB; clear HK; have HO_0 := n0_; have HB := n1_; have HK := n2_; clear n0_ n1_ n2_; clear hg hw hp_))
     go_roundg k1
     case measure => have := HK1.out; omega
     case rel => exact ⟨(y119), (wrap64 (x1_1 + 1)), (wrap64 (x5_1 + 1)), (sqD), (sqD), H', ⟨by have := HK1.out; omega⟩, ⟨sqR HO_0.out⟩, ⟨by repeat (first | (with_reducible first | exact HK.out | apply Kept.alloc | apply Kept.drewN | apply Kept.drew) | exact HK.out)⟩, ⟨sqB⟩⟩
    ·rw [if_neg c4] at H
     exact absurd H (by simp)
   ·rw [if_neg c3] at H
    have c3b0 : decide (x5_1 < (x0_1.length : Int)) = false := decide_eq_false c3
    clear c3
    simp only [Option.some.injEq, Prod.mk.injEq] at H
    obtain ⟨rfl, rfl⟩ := H
    obtain ⟨Ao9, co9, eo9⟩ := Kd.zU HO_0.out
    subst eo9
    go_wp2
    go_ret
    exact ⟨sqE, sqR HO_0.out, sqB, by repeat (first | (with_reducible first | exact HK.out | apply Kept.alloc | apply Kept.drewN | apply Kept.drew) | exact HK.out)⟩

def qk.f (k : Nat) (a0_0 : Int) (a0_1 : Int) (a0_2 : Int) (l0_3 : List Int) (a1 : Int) : Option (Int × List Int) := (qa.f k l0_3 a1).bind fun bt121 => (some (bt121.1, bt121.2))
theorem qk.calls (k : Nat) (a0_0 : Int) (a0_1 : Int) (a0_2 : Int) (P0_3_ : Nat → Prop) (u9000_ : Value) (l0_3 : List Int) (a1 : Int) (r1 : Int) (r2 : List Int) (w0 w : World) (hB : Below w0.heap.size w0 w) (ho0_3 : Kd.R (Kd.int .i64) 3 w w0.heap.size P0_3_ u9000_ l0_3) (h : qk.f k a0_0 a0_1 a0_2 l0_3 a1 = some (r1, r2)) :
  Calls Try.prog 26 #[.agg #[.int .i64 a0_0, .int .i64 a0_1, .int .i64 a0_2, u9000_], .int .i64 a1] w fun e w' => e = .returned (.int .i64 r1) ∧ Kd.R (Kd.int .i64) 3 w' w0.heap.size (fun k_ => (P0_3_ k_ ∨ w.heap.size ≤ k_)) u9000_ r2 ∧ Below w0.heap.size w0 w' ∧ Kept w w' (fun k_ => P0_3_ k_) := by
 have hu27 := Try.underlying27
 have HO0_3 := Aside0.mk (show Kd.R (Kd.int .i64) 3 w w0.heap.size (fun k_ => (P0_3_ k_ ∨ w.heap.size ≤ k_)) u9000_ l0_3 from Kd.zo ho0_3 (fun k_ hk => (.inl hk)))
 have HK := Aside0.mk (Kept.refl w (fun k_ => P0_3_ k_))
 have HW0 := Aside0.mk hB.size
 have HB := Aside0.mk hB
 clear hB
 have H : ((qa.f k l0_3 a1).bind fun bt121 => (some (bt121.1, bt121.2))) = some (r1, r2) := h
 clear h
 replace H := Option.bind_eq_some_iff.mp H
 obtain ⟨⟨t121, t122⟩, A30, H⟩ := H
 replace H : (some (t121, t122)) = some (r1, r2) := H
 have A3 := Aside0.mk A30
 clear A30
 simp only [Option.some.injEq, Prod.mk.injEq] at H
 obtain ⟨rfl, rfl⟩ := H
 obtain ⟨Ao4, co4, eo4⟩ := Kd.zU HO0_3.out
 subst eo4
 go_enter Try.func26, Try.ntmps26
 go_wp2_with (first | ((with_reducible refine zC (N := 2) rfl ?_); refine zD ?hg (N := 2) ?hd (cs := #[.int .i64 a0_0, .int .i64 a0_1, .int .i64 a0_2, .slice Ao4 l0_3.length co4]) (t := 27) ?hr ?_; (case hd => rfl); (case hg => rfl); (case hr => exact sqG); intro gb120 hg w5 hbox hb; have n0_ := Aside0.mk (Kd.zG (sqR HO0_3.out) hb); have n1_ := Aside0.mk (Kept.below (S := (fun k_ => P0_3_ k_)) (by repeat (first | (with_reducible first | exact HK.out | apply Kept.alloc | apply Kept.drewN | apply Kept.drew) | exact HK.out)) hb); have n2_ := Aside0.mk (zg sqB hb); have n3_ := Aside0.mk (hbox); have n4_ := Aside0.mk ((by rw [hg]; exact (by first | exact HK.out.1 | exact (show Kept w _ (fun k_ => P0_3_ k_) from by repeat (first | (with_reducible first | exact HK.out | apply Kept.alloc | apply Kept.drewN | apply Kept.drew) | exact HK.out)).1) : w.heap.size ≤ gb120)); have n5_ := Aside0.mk ((sqS hg : w0.heap.size ≤ gb120)); clear HO0_3; clear HK; clear HB; have HO0_3 := n0_; have HK := n1_; have HB := n2_; have BK120 := n3_; have GW120 := n4_; have GE120 := n5_; clear n0_ n1_ n2_ n3_ n4_ n5_; clear hb hbox hg; have hcz6_0 : w5.cell? ⟨gb120, 0, none⟩ = some (.int .i64 a0_0) := (zb BK120.out 0).trans rfl; have hcz6_1 : w5.cell? ⟨gb120, 1, none⟩ = some (.int .i64 a0_1) := (zb BK120.out 1).trans rfl; have hcz6_2 : w5.cell? ⟨gb120, 2, none⟩ = some (.int .i64 a0_2) := (zb BK120.out 2).trans rfl; have hcz6_3 : w5.cell? ⟨gb120, 3, none⟩ = some (.slice Ao4 l0_3.length co4) := (zb BK120.out 3).trans rfl; have hfz6_0 := za BK120.out 0; have hfz6_1 := za BK120.out 1; have hfz6_2 := za BK120.out 2; have hfz6_3 := za BK120.out 3) | ((with_reducible refine zp (f := 53) rfl ?_); refine zP (some 8) rfl rfl Try.func53 (by kernel_rfl) rfl #[.slice Ao4 l0_3.length co4, .int .i64 a1] rfl sqM ?_; (with_reducible refine (qa.calls k (fun k_ => some k_ = (.slice Ao4 l0_3.length co4 : Value).ownBlock) (.slice Ao4 l0_3.length co4) l0_3 a1 t121 t122 w0 _ ?side1 ?side2 A3.out).mono ?_); (case side1 => repeat (first | (with_reducible first | exact HB.out | apply qc | apply z6 | apply zT | refine zO ?_ GE120.out) | exact HB.out)); (case side2 => exact Kd.vJ rfl HO0_3.out); rintro e w7 ⟨rfl, hy0, hb, hkp⟩; refine ⟨_, rfl, ?_⟩; have n0_ := Aside0.mk (Kd.ZW rfl hy0 (fun k_ e_ => HO0_3.out.1 k_ e_)); have n1_ := Aside0.mk (ja (sqK BK120.out) hkp (fun hs_ => (fun e_ => (Kd.qH HO0_3.out BK120.out (by decide)) e_) hs_)); have n2_ := Aside0.mk (Kept.JF (S := (fun k_ => P0_3_ k_)) (by repeat (first | (with_reducible first | exact HK.out | apply Kept.alloc | apply Kept.drewN | apply Kept.drew | refine Kept.setCell ?_ (.inr GW120.out) _) | exact HK.out)) hkp (fun k_ hs_ => (fun e_ => (HO0_3.out.1 k_ e_.symm)) hs_)); have n3_ := Aside0.mk (hb); clear HO0_3; clear BK120; clear HK; clear HB; have HO0_3 := n0_; have BK120 := n1_; have HK := n2_; have HB := n3_; clear n0_ n1_ n2_ n3_; (try clear hb); (try clear hkp); (try clear hy0)))
 go_ret
 exact ⟨sqE, sqR HO0_3.out, sqB, by repeat (first | (with_reducible first | exact HK.out | apply Kept.alloc | apply Kept.drewN | apply Kept.drew | refine Kept.setCell ?_ (.inr GW120.out) _) | exact HK.out)⟩

def qb.l0 : Nat → List Int → Int → Int → Option (Int)
 | 0, _, _, _ => none
 | k + 1, x0, x1, x5 => if x5 < (x0.length : Int) then (if 0 ≤ x5 then (if (rd x0 x5) = x1 then (qb.l0 k x0 (wrap64 (x1 + 1)) (wrap64 (x5 + 1))) else (some (-1))) else (none)) else (some x1)
def qb.f (k : Nat) (l0 : List Int) (a1 : Int) : Option (Int) := qb.l0 k l0 a1 0
theorem qb.calls (k : Nat) (A0 : Option Addr) (c0 : Nat) (l0 : List Int) (a1 : Int) (r : Int) (w : World) (hr0 : Kd.C (Kd.int .i64) w A0 l0.length l0) (hc0 : l0.length ≤ c0) (h : qb.f k l0 a1 = some r) :
  Calls Try.prog 54 #[.slice A0 l0.length c0, .int .i64 a1] w fun e w' => e = .returned (.int .i64 r) ∧ zw w w' := by
 have HR0 := Aside0.mk hr0
 have HC0 := Aside0.mk hc0
 clear hr0 hc0
 have H : (qb.l0 k l0 a1 0) = some r := h
 clear h
 have H' := Aside0.mk H
 clear H
 go_enter Try.func54, Try.ntmps54
 go_wp2
 go_loopg [1, 5] k (fun kq v1 v5 w' => ∃ (x1_1 : Int) (x5_1 : Int), v1 = .int .i64 x1_1 ∧ v5 = .int .i64 x5_1 ∧ Aside0 (qb.l0 kq l0 x1_1 x5_1 = some r) ∧ Aside0 (kq ≤ k) ∧ zw w w')
 case atStart => exact ⟨(a1), (0), (sqD), (sqD), H', ⟨Nat.le_refl _⟩, by repeat (first | exact zw.refl _ | apply zw.step)⟩
 case round =>
  clear H'
  try clear p2
  obtain ⟨x1_1, x5_1, rfl, rfl, HA, HK1, ⟨m1, rfl⟩⟩ := hrel
  cases gk with
  | zero => exact absurd HA.out (by simp [qb.l0])
  | succ k1 =>
   have H := HA.out
   clear HA
   simp only [qb.l0] at H
   by_cases c3 : x5_1 < (l0.length : Int)
   ·rw [if_pos c3] at H
    have c3b0 : decide (x5_1 < (l0.length : Int)) = true := decide_eq_true c3
    clear c3
    by_cases c4 : 0 ≤ x5_1
    ·rw [if_pos c4] at H
     have c4b0 : decide (0 ≤ x5_1) = true := decide_eq_true c4
     clear c4
     by_cases c5 : (rd l0 x5_1) = x1_1
     ·rw [if_pos c5] at H
      have c5b0 : ((rd l0 x5_1) == x1_1) = true := beq_iff_eq.mpr c5
      have c5b1 : ((rd l0 x5_1) != x1_1) = false := bne_eq_false_iff_eq.mpr c5
      clear c5
      have H' := Aside0.mk H
      clear H
      have p123 : 0 ≤ (x5_1 : Int) := of_decide_eq_true sqA
      have q123 : x5_1 < (l0.length : Int) := of_decide_eq_true sqA
      obtain ⟨ad123, e123, hx123_0⟩ := Kd.qh HR0.out x5_1 p123 q123
      cases e123
      replace p123 := eq_true p123
      replace q123 := eq_true q123
      go_wp2
      go_roundg k1
      case measure => have := HK1.out; omega
      case rel => exact ⟨(wrap64 (x1_1 + 1)), (wrap64 (x5_1 + 1)), (sqD), (sqD), H', ⟨by have := HK1.out; omega⟩, by repeat (first | exact zw.refl _ | apply zw.step)⟩
     ·rw [if_neg c5] at H
      have c5b0 : ((rd l0 x5_1) == x1_1) = false := beq_eq_false_iff_ne.mpr c5
      have c5b1 : ((rd l0 x5_1) != x1_1) = true := bne_iff_ne.mpr c5
      obtain rfl := Option.some.inj H
      have p123 : 0 ≤ (x5_1 : Int) := of_decide_eq_true sqA
      have q123 : x5_1 < (l0.length : Int) := of_decide_eq_true sqA
      obtain ⟨ad123, e123, hx123_0⟩ := Kd.qh HR0.out x5_1 p123 q123
      cases e123
      replace p123 := eq_true p123
      replace q123 := eq_true q123
      go_wp2
      go_ret
      exact ⟨sqD, by repeat (first | exact zw.refl _ | apply zw.step)⟩
    ·rw [if_neg c4] at H
     exact absurd H (by simp)
   ·rw [if_neg c3] at H
    have c3b0 : decide (x5_1 < (l0.length : Int)) = false := decide_eq_false c3
    clear c3
    obtain rfl := Option.some.inj H
    go_wp2
    go_ret
    exact ⟨sqD, by repeat (first | exact zw.refl _ | apply zw.step)⟩

def qz.f (k : Nat) (a0_0 : Int) (a0_1 : Int) (a0_2 : Int) (l0_3 : List Int) (a1 : Int) : Option (Int) := (qb.f k l0_3 a1).bind fun t125 => (if t125 < 0 then (some (-1)) else (some t125))
theorem qz.calls (k : Nat) (a0_0 : Int) (a0_1 : Int) (a0_2 : Int) (A0_3 : Option Addr) (c0_3 : Nat) (l0_3 : List Int) (a1 : Int) (r : Int) (w : World) (hr0_3 : Kd.C (Kd.int .i64) w A0_3 l0_3.length l0_3) (hc0_3 : l0_3.length ≤ c0_3) (h : qz.f k a0_0 a0_1 a0_2 l0_3 a1 = some r) :
  Calls Try.prog 27 #[.agg #[.int .i64 a0_0, .int .i64 a0_1, .int .i64 a0_2, .slice A0_3 l0_3.length c0_3], .int .i64 a1] w fun e w' => e = .returned (.int .i64 r) ∧ Below w.heap.size w w' := by
 have hu27 := Try.underlying27
 have HR0_3 := Aside0.mk hr0_3
 have HC0_3 := Aside0.mk hc0_3
 clear hr0_3 hc0_3
 have HB := Aside0.mk (Below.refl w.heap.size w)
 have H : ((qb.f k l0_3 a1).bind fun t125 => (if t125 < 0 then (some (-1)) else (some t125))) = some r := h
 clear h
 replace H := Option.bind_eq_some_iff.mp H
 obtain ⟨t125, A30, H⟩ := H
 replace H : (if t125 < 0 then (some (-1)) else (some t125)) = some r := H
 have A3 := Aside0.mk A30
 clear A30
 by_cases c4 : t125 < 0
 ·rw [if_pos c4] at H
  have c4b0 : decide (t125 < 0) = true := decide_eq_true c4
  clear c4
  obtain rfl := Option.some.inj H
  go_enter Try.func27, Try.ntmps27
  go_wp2_with (first | ((with_reducible refine zC (N := 2) rfl ?_); refine zD ?hg (N := 2) ?hd (cs := #[.int .i64 a0_0, .int .i64 a0_1, .int .i64 a0_2, .slice A0_3 l0_3.length c0_3]) (t := 27) ?hr ?_; (case hd => rfl); (case hg => rfl); (case hr => exact sqG); intro gb124 hg w5 hbox hb; have n0_ := Aside0.mk (zg sqB hb); have n1_ := Aside0.mk (hbox); have n2_ := Aside0.mk ((sqS hg : w.heap.size ≤ gb124)); have n3_ := Aside0.mk ((sqS hg : w.heap.size ≤ gb124)); clear HB; have HB := n0_; have BK124 := n1_; have GW124 := n2_; have GE124 := n3_; clear n0_ n1_ n2_ n3_; clear hb hbox hg; have hcz6_0 : w5.cell? ⟨gb124, 0, none⟩ = some (.int .i64 a0_0) := (zb BK124.out 0).trans rfl; have hcz6_1 : w5.cell? ⟨gb124, 1, none⟩ = some (.int .i64 a0_1) := (zb BK124.out 1).trans rfl; have hcz6_2 : w5.cell? ⟨gb124, 2, none⟩ = some (.int .i64 a0_2) := (zb BK124.out 2).trans rfl; have hcz6_3 : w5.cell? ⟨gb124, 3, none⟩ = some (.slice A0_3 l0_3.length c0_3) := (zb BK124.out 3).trans rfl; have hfz6_0 := za BK124.out 0; have hfz6_1 := za BK124.out 1; have hfz6_2 := za BK124.out 2; have hfz6_3 := za BK124.out 3) | ((with_reducible refine zp (f := 54) rfl ?_); refine zP (some 8) rfl rfl Try.func54 (by kernel_rfl) rfl #[.slice A0_3 l0_3.length c0_3, .int .i64 a1] rfl sqM ?_; (with_reducible refine (qb.calls k _ _ l0_3 a1 t125 _ ?side1 ?side2 A3.out).mono ?_); (case side1 => exact sqC (Kd.z1 HR0_3.out HB.out)); (case side2 => exact HC0_3.out); rintro e w' ⟨rfl, ⟨nd, rfl⟩⟩; refine ⟨_, rfl, ?_⟩))
  go_ret
  exact ⟨sqE, sqB⟩
 ·rw [if_neg c4] at H
  have c4b0 : decide (t125 < 0) = false := decide_eq_false c4
  clear c4
  obtain rfl := Option.some.inj H
  go_enter Try.func27, Try.ntmps27
  go_wp2_with (first | ((with_reducible refine zC (N := 2) rfl ?_); refine zD ?hg (N := 2) ?hd (cs := #[.int .i64 a0_0, .int .i64 a0_1, .int .i64 a0_2, .slice A0_3 l0_3.length c0_3]) (t := 27) ?hr ?_; (case hd => rfl); (case hg => rfl); (case hr => exact sqG); intro gb124 hg w7 hbox hb; have n0_ := Aside0.mk (zg sqB hb); have n1_ := Aside0.mk (hbox); have n2_ := Aside0.mk ((sqS hg : w.heap.size ≤ gb124)); have n3_ := Aside0.mk ((sqS hg : w.heap.size ≤ gb124)); clear HB; have HB := n0_; have BK124 := n1_; have GW124 := n2_; have GE124 := n3_; clear n0_ n1_ n2_ n3_; clear hb hbox hg; have hcz8_0 : w7.cell? ⟨gb124, 0, none⟩ = some (.int .i64 a0_0) := (zb BK124.out 0).trans rfl; have hcz8_1 : w7.cell? ⟨gb124, 1, none⟩ = some (.int .i64 a0_1) := (zb BK124.out 1).trans rfl; have hcz8_2 : w7.cell? ⟨gb124, 2, none⟩ = some (.int .i64 a0_2) := (zb BK124.out 2).trans rfl; have hcz8_3 : w7.cell? ⟨gb124, 3, none⟩ = some (.slice A0_3 l0_3.length c0_3) := (zb BK124.out 3).trans rfl; have hfz8_0 := za BK124.out 0; have hfz8_1 := za BK124.out 1; have hfz8_2 := za BK124.out 2; have hfz8_3 := za BK124.out 3) | ((with_reducible refine zp (f := 54) rfl ?_); refine zP (some 8) rfl rfl Try.func54 (by kernel_rfl) rfl #[.slice A0_3 l0_3.length c0_3, .int .i64 a1] rfl sqM ?_; (with_reducible refine (qb.calls k _ _ l0_3 a1 t125 _ ?side1 ?side2 A3.out).mono ?_); (case side1 => exact sqC (Kd.z1 HR0_3.out HB.out)); (case side2 => exact HC0_3.out); rintro e w' ⟨rfl, ⟨nd, rfl⟩⟩; refine ⟨_, rfl, ?_⟩))
  go_ret
  exact ⟨sqE, sqB⟩

def qm.f (a0_0 : Int) (a0_1 : Int) (a0_2 : Int) (l0_3 : List Int) : Option (Int × Int × Int × List Int) := (some (([] : List Int) : List Int)).bind fun y134 => (if y134.length + l0_3.length < 17592186044416 then (some (a0_0, a0_1, a0_2, (y134 ++ l0_3))) else (none))
def qm.T1 : Bool × List (List Nat × List Nat) := (true, [([], []), ([0], [0]), ([], []), ([2], [2]), ([], []), ([4], [4]), ([], []), ([], []), ([7], [7]), ([6, 8], [6, 8]), ([1, 3, 5, 9], [1, 3, 5, 9]), ([10, 9, 0, 1, 2, 3, 4, 5, 6, 7, 8, 9, 10], [10])])
def qm.B1 : List Nat := [0, 1, 0, 4, 0, 16, 0, 0, 128, 448, 1023, 2047]
theorem qm.YL : jQ .any (opsOf Try.f60 1) = qm.T1 := by kernel_rfl
theorem qm.VD : jf qm.T1.2 qm.B1 = true := by kernel_rfl
theorem qm.calls (a0_0 : Int) (a0_1 : Int) (a0_2 : Int) (A0_3 : Option Addr) (c0_3 : Nat) (l0_3 : List Int) (r1 : Int) (r2 : Int) (r3 : Int) (r4 : List Int) (w : World) (hr0_3 : Kd.C (Kd.int .i64) w A0_3 l0_3.length l0_3) (hc0_3 : l0_3.length ≤ c0_3) (h : qm.f a0_0 a0_1 a0_2 l0_3 = some (r1, r2, r3, r4)) :
  Calls Try.prog 60 #[.agg #[.int .i64 a0_0, .int .i64 a0_1, .int .i64 a0_2, .slice A0_3 l0_3.length c0_3]] w fun e w' => ∃ v3_ : Value, e = .returned (.agg #[.int .i64 r1, .int .i64 r2, .int .i64 r3, v3_]) ∧ Kd.R (Kd.int .i64) 3 w' w.heap.size (fun _ => True) v3_ r4 ∧ Below w.heap.size w w' := by
 have hu27 := Try.underlying27
 have HR0_3 := Aside0.mk hr0_3
 have HC0_3 := Aside0.mk hc0_3
 clear hr0_3 hc0_3
 have HB := Aside0.mk (Below.refl w.heap.size w)
 have H : ((some (([] : List Int) : List Int)).bind fun y134 => (if y134.length + l0_3.length < 17592186044416 then (some (a0_0, a0_1, a0_2, (y134 ++ l0_3))) else (none))) = some (r1, r2, r3, r4) := h
 clear h
 obtain ⟨y134, hy134⟩ : ∃ y_ : List Int, y_ = (([] : List Int)) := ⟨_, rfl⟩
 replace H : (if y134.length + l0_3.length < 17592186044416 then (some (a0_0, a0_1, a0_2, (y134 ++ l0_3))) else (none)) = some (r1, r2, r3, r4) := by first | (rw [hy134]; with_reducible exact H) | (have H2_ := (Option.bind_some _ _).symm.trans H; rw [hy134]; with_reducible exact H2_) | (have H2_ := (Option.bind_some _ _).symm.trans H; with_reducible exact H2_) | with_reducible exact H | (rw [hy134]; exact H) | exact H
 have Ny134 := Aside0.mk hy134
 clear hy134
 by_cases c2 : y134.length + l0_3.length < 17592186044416
 ·rw [if_pos c2] at H
  have LMc2 := Aside0.mk c2
  clear c2
  obtain ⟨y137, hy137⟩ : ∃ y_ : List Int, y_ = (y134 ++ l0_3) := ⟨_, rfl⟩
  replace H : (some (a0_0, a0_1, a0_2, y137)) = some (r1, r2, r3, r4) := by first | (rw [hy137]; with_reducible exact H) | (have H2_ := (Option.bind_some _ _).symm.trans H; rw [hy137]; with_reducible exact H2_) | (have H2_ := (Option.bind_some _ _).symm.trans H; with_reducible exact H2_) | with_reducible exact H | (rw [hy137]; exact H) | exact H
  have Ny137 := Aside0.mk hy137
  clear hy137
  simp only [Option.some.injEq, Prod.mk.injEq] at H
  obtain ⟨rfl, rfl, rfl, rfl⟩ := H
  go_enter Try.func60, Try.ntmps60
  try go_wp2_with (first | ((with_reducible refine zC (N := 1) rfl ?_); refine zD ?hg (N := 1) ?hd (cs := #[.int .i64 a0_0, .int .i64 a0_1, .int .i64 a0_2, .slice A0_3 l0_3.length c0_3]) (t := 27) ?hr ?_; (case hd => rfl); (case hg => rfl); (case hr => exact sqG); intro gb132 hg w3 hbox hb; have n0_ := Aside0.mk (zg sqB hb); have n1_ := Aside0.mk (hbox); have n2_ := Aside0.mk ((sqS hg : w.heap.size ≤ gb132)); have n3_ := Aside0.mk ((sqS hg : w.heap.size ≤ gb132)); clear HB; have HB := n0_; have BK132 := n1_; have GW132 := n2_; have GE132 := n3_; clear n0_ n1_ n2_ n3_; clear hb hbox hg) | ((with_reducible refine zC (N := 2) rfl ?_); refine zD ?hg (N := 2) ?hd (cs := #[.int .i64 0, .int .i64 0, .int .i64 0, .slice none 0 0]) (t := 27) ?hr ?_; (case hd => rfl); (case hg => rfl); (case hr => exact sqG); intro gb133 hg w4 hbox hb; have n0_ := Aside0.mk (ze (g := gb132) (o := .cells #[.int .i64 a0_0, .int .i64 a0_1, .int .i64 a0_2, .slice A0_3 l0_3.length c0_3] 27 (0, 0)) (sqK BK132.out) hb); have n1_ := Aside0.mk (zg sqB hb); have n2_ := Aside0.mk (hbox); have n3_ := Aside0.mk ((sqS hg : w.heap.size ≤ gb133)); have n4_ := Aside0.mk ((sqS hg : w.heap.size ≤ gb133)); have n5_ := Aside0.mk ((by rw [hg]; exact Nat.ne_of_lt (zI (g := gb132) (o := .cells #[.int .i64 a0_0, .int .i64 a0_1, .int .i64 a0_2, .slice A0_3 l0_3.length c0_3] 27 (0, 0)) (sqK BK132.out)) : gb132 ≠ gb133)); have n6_ := Aside0.mk ((by rw [hg]; exact Nat.ne_of_gt (zI (g := gb132) (o := .cells #[.int .i64 a0_0, .int .i64 a0_1, .int .i64 a0_2, .slice A0_3 l0_3.length c0_3] 27 (0, 0)) (sqK BK132.out)) : gb133 ≠ gb132)); clear BK132; clear HB; have BK132 := n0_; have HB := n1_; have BK133 := n2_; have GW133 := n3_; have GE133 := n4_; have NB132_133 := n5_; have NB133_132 := n6_; clear n0_ n1_ n2_ n3_ n4_ n5_ n6_; clear hb hbox hg))
  have n0_ := Aside0.mk (qd BK132.out)
  have n1_ := Aside0.mk (qd BK133.out)
  have n2_ := Aside0.mk (zT HB.out)
  clear BK132 BK133 HB; have BK132 := n0_; have BK133 := n1_; have HB := n2_; clear n0_ n1_ n2_
  refine jU (n := 12) (S := fun w' => w'.cell? ⟨gb132, 0, none⟩ = some (.int .i64 a0_0) ∧ w'.cell? ⟨gb132, 1, none⟩ = some (.int .i64 a0_1) ∧ w'.cell? ⟨gb132, 2, none⟩ = some (.int .i64 a0_2) ∧ w'.cell? ⟨gb132, 3, none⟩ = some (.slice A0_3 l0_3.length c0_3)) (ds := []) #[false, false, false, false, false, false, false, false, false, false, false, false] (by kernel_rfl) rfl rfl ⟨(zb BK132.out 0).trans rfl, (zb BK132.out 1).trans rfl, (zb BK132.out 2).trans rfl, (zb BK132.out 3).trans rfl⟩ (fun hHeld => ?_); refine qZ qm.YL qm.VD (fun HT_ HW_ => ?_)
  generalize w4.drew = w5 at BK132 BK133 HB hHeld ⊢
  refine zx (i := 0) (N := some 3) (v := ?_) (a' := ?_) #[true, false, false, false, false, false, false, false, false, false, false, false] rfl rfl (zn HT_.out (by kernel_rfl)) (fun _ _ _ h => h) (Or.inl ⟨by rfl, ?_⟩) ?_ ?_
  rotate_left
  ·intro w'; go_simp; with_reducible rfl
  rotate_left
  ·simp only [Act.put, List.setIfInBounds_toArray, List.set_cons_zero, List.set_cons_succ, zf, zh]; rfl
  refine zx (i := 2) (N := some 5) (v := ?_) (a' := ?_) #[true, false, true, false, false, false, false, false, false, false, false, false] rfl rfl (zn HT_.out (by kernel_rfl)) (fun _ _ _ h => h) (Or.inl ⟨by rfl, ?_⟩) ?_ ?_
  rotate_left
  ·intro w'; go_simp; with_reducible rfl
  rotate_left
  ·simp only [Act.put, List.setIfInBounds_toArray, List.set_cons_zero, List.set_cons_succ, zf, zh]; rfl
  refine zx (i := 4) (N := some 7) (v := ?_) (a' := ?_) #[true, false, true, false, true, false, false, false, false, false, false, false] rfl rfl (zn HT_.out (by kernel_rfl)) (fun _ _ _ h => h) (Or.inl ⟨by rfl, ?_⟩) ?_ ?_
  rotate_left
  ·intro w'; go_simp; with_reducible rfl
  rotate_left
  ·simp only [Act.put, List.setIfInBounds_toArray, List.set_cons_zero, List.set_cons_succ, zf, zh]; rfl
  refine zx (i := 7) (N := some 10) (v := ?_) (a' := ?_) #[true, false, true, false, true, false, false, true, false, false, false, false] rfl rfl (zn HT_.out (by kernel_rfl)) (fun _ _ _ h => h) (Or.inl ⟨by rfl, ?_⟩) ?_ ?_
  rotate_left
  ·intro w'; go_simp; with_reducible rfl
  rotate_left
  ·simp only [Act.put, List.setIfInBounds_toArray, List.set_cons_zero, List.set_cons_succ, zf, zh]; rfl
  refine qe (i := 1) (N := some 4) (v := ?_) (a' := ?_) #[true, true, true, false, true, false, false, true, false, false, false, false] rfl rfl (zM HT_.out HW_.out (by kernel_rfl)) (fun _ _ _ h => h) (Or.inl ⟨by rfl, ?_⟩) hHeld ?_ ?_
  rotate_left
  ·rintro w' ⟨s0, s1, s2, s3⟩; go_simp; with_reducible rfl
  rotate_left
  ·simp only [Act.put, List.setIfInBounds_toArray, List.set_cons_zero, List.set_cons_succ, zf, zh]; rfl
  refine qe (i := 3) (N := some 6) (v := ?_) (a' := ?_) #[true, true, true, true, true, false, false, true, false, false, false, false] rfl rfl (zM HT_.out HW_.out (by kernel_rfl)) (fun _ _ _ h => h) (Or.inl ⟨by rfl, ?_⟩) hHeld ?_ ?_
  rotate_left
  ·rintro w' ⟨s0, s1, s2, s3⟩; go_simp; with_reducible rfl
  rotate_left
  ·simp only [Act.put, List.setIfInBounds_toArray, List.set_cons_zero, List.set_cons_succ, zf, zh]; rfl
  refine qe (i := 5) (N := some 8) (v := ?_) (a' := ?_) #[true, true, true, true, true, true, false, true, false, false, false, false] rfl rfl (zM HT_.out HW_.out (by kernel_rfl)) (fun _ _ _ h => h) (Or.inl ⟨by rfl, ?_⟩) hHeld ?_ ?_
  rotate_left
  ·rintro w' ⟨s0, s1, s2, s3⟩; go_simp; with_reducible rfl
  rotate_left
  ·simp only [Act.put, List.setIfInBounds_toArray, List.set_cons_zero, List.set_cons_succ, zf, zh]; rfl
  refine qe (i := 8) (N := some 11) (v := ?_) (a' := ?_) #[true, true, true, true, true, true, false, true, true, false, false, false] rfl rfl (zM HT_.out HW_.out (by kernel_rfl)) (fun _ _ _ h => h) (Or.inl ⟨by rfl, ?_⟩) hHeld ?_ ?_
  rotate_left
  ·rintro w' ⟨s0, s1, s2, s3⟩; go_simp; with_reducible rfl
  rotate_left
  ·simp only [Act.put, List.setIfInBounds_toArray, List.set_cons_zero, List.set_cons_succ, zf, zh]; rfl
  refine Zq (i := 6) (N := some 9) #[true, true, true, true, true, true, true, true, true, false, false, false] rfl rfl (jr HT_.out (by kernel_rfl)) (by decide) (fun K hK => ?_)
  refine Kd.Jy (Kd.int .i64) _ 3 ?hg (N := 9) ?hd (xs := ([] : List Int)) (inner := []) (ok := fun _ => True) (okp := fun _ => True) ?hr ?hp (fun _ hk => hk) trivial (Below.refl _ _) (Nat.le_refl _) (by simp) ?_; (case hd => rfl); (case hg => rfl); (case hr => exact sqG); (case hp => exact (qy.none _ _))
  intro v135 w6 ho7 hb hg_ hnew_
  clear hg_ hnew_
  (first | rw [← Ny134.out] at ho7 | (simp only [Int.reduceToNat] at ho7; rw [← Ny134.out] at ho7))
  have n0_ := Aside0.mk (Kd.qo ho7 (zJ sqB))
  have n1_ := Aside0.mk (ze (g := gb132) (o := .cells #[.int .i64 a0_0, .int .i64 a0_1, .int .i64 a0_2, .slice A0_3 l0_3.length c0_3] 27 (0, 0)) (sqK BK132.out) hb)
  have n2_ := Aside0.mk (ze (g := gb133) (o := .cells #[.int .i64 0, .int .i64 0, .int .i64 0, .slice none 0 0] 27 (0, 0)) (sqK BK133.out) hb)
  have n3_ := Aside0.mk (zg sqB hb)
  clear BK132 BK133 HB; have HO136 := n0_; have BK132 := n1_; have BK133 := n2_; have HB := n3_; clear n0_ n1_ n2_ n3_ hb ho7
  refine hK.out _ _ ⟨(zb BK132.out 0).trans rfl, (zb BK132.out 1).trans rfl, (zb BK132.out 2).trans rfl, (zb BK132.out 3).trans rfl⟩ (fun hHeld => ?_)
  clear hK K
  refine yi (a' := ?_) ?_ ?_
  rotate_left
  ·show Act.put _ (some 9) _ = _; simp only [Act.put, List.setIfInBounds_toArray, List.set_cons_zero, List.set_cons_succ, zf, zh]; rfl
  refine Zq (i := 9) (N := some 12) #[true, true, true, true, true, true, true, true, true, true, false, false] rfl rfl (jr HT_.out (by kernel_rfl)) (by decide) (fun K hK => ?_)
  refine Kd.yK (Kd.int .i64) (w0 := w) w.heap.size (by rfl) (.tmp 9) (.tmp 11) 22 3 (.int .i64 0) 8 rfl Try.underlying22 vt rfl (by decide) (by omega) v135 y134 l0_3 _ _ _ (fun _ => True) (fun _ => False) rfl rfl ?aO ?aR (fun _ _ h => h) (fun _ h => h.elim) ?aF ?aB ?aS ?aL ?_
  (case aR => exact sqC (Kd.z1 HR0_3.out HB.out))
  (case aB => exact sqB)
  (case aF => exact (fun _ _ => trivial))
  (case aO => exact (sqR HO136.out))
  (case aS => exact (zJ sqB))
  (case aL => have := LMc2.out; omega)
  intro v138 w8 ho hb hg hat
  rw [← Ny137.out] at ho
  have n0_ := Aside0.mk (zX (g := gb132) (o := .cells #[.int .i64 a0_0, .int .i64 a0_1, .int .i64 a0_2, .slice A0_3 l0_3.length c0_3] 27 (0, 0)) (sqK BK132.out) hg (Kd.qH HO136.out BK132.out (by decide)))
  have n1_ := Aside0.mk (zX (g := gb133) (o := .cells #[.int .i64 0, .int .i64 0, .int .i64 0, .slice none 0 0] 27 (0, 0)) (sqK BK133.out) hg (Kd.qH HO136.out BK133.out (by decide)))
  have n2_ := Aside0.mk (hb)
  have n3_ := Aside0.mk (ho)
  clear BK132 BK133 HB HO136; have BK132 := n0_; have BK133 := n1_; have HB := n2_; have HO139 := n3_; clear n0_ n1_ n2_ n3_ ho hb hg hat
  obtain ⟨Ao9, co9, eo9⟩ := Kd.zU HO139.out
  (first | subst eo9 | (injection eo9 with f1_ f2_ f3_; have f4_ := f1_.symm; have f5_ := f3_.symm; clear f1_ f2_ f3_; subst f4_; subst f5_))
  refine hK.out _ _ ⟨(zb BK132.out 0).trans rfl, (zb BK132.out 1).trans rfl, (zb BK132.out 2).trans rfl, (zb BK132.out 3).trans rfl⟩ (fun hHeld => ?_)
  clear hK K
  refine yi (a' := ?_) ?_ ?_
  rotate_left
  ·show Act.put _ (some 12) _ = _; simp only [Act.put, List.setIfInBounds_toArray, List.set_cons_zero, List.set_cons_succ, zf, zh]; rfl
  refine zx (i := 10) (N := some 13) (v := ?_) (a' := ?_) #[true, true, true, true, true, true, true, true, true, true, true, false] rfl rfl (zn HT_.out (by kernel_rfl)) (fun _ _ _ h => h) (Or.inl ⟨by rfl, ?_⟩) ?_ ?_
  rotate_left
  ·intro w'; go_simp; with_reducible rfl
  rotate_left
  ·simp only [Act.put, List.setIfInBounds_toArray, List.set_cons_zero, List.set_cons_succ, zf, zh]; rfl
  refine Zq (i := 11) (N := none) #[true, true, true, true, true, true, true, true, true, true, true, true] rfl rfl (jr HT_.out (by kernel_rfl)) (by decide) (fun K hK => ?_)
  have hs10 : w8.cell? ⟨gb133, 0, none⟩ = some (.int .i64 0) := (zb BK133.out 0).trans rfl
  have hfs10 := za BK133.out 0
  have hns10_0 := NB132_133.out
  have hms10_0 := NB133_132.out
  have hs11 : w8.cell? ⟨gb133, 1, none⟩ = some (.int .i64 0) := (zb BK133.out 1).trans rfl
  have hfs11 := za BK133.out 1
  have hns11_0 := NB132_133.out
  have hms11_0 := NB133_132.out
  have hs12 : w8.cell? ⟨gb133, 2, none⟩ = some (.int .i64 0) := (zb BK133.out 2).trans rfl
  have hfs12 := za BK133.out 2
  have hns12_0 := NB132_133.out
  have hms12_0 := NB133_132.out
  have hs13 : w8.cell? ⟨gb133, 3, none⟩ = some (.slice none 0 0) := (zb BK133.out 3).trans rfl
  have hfs13 := za BK133.out 3
  have hns13_0 := NB132_133.out
  have hms13_0 := NB133_132.out
  refine yj (w1 := ?_) (by rfl) rfl ?_ ?_
  rotate_left
  ·go_simp
   rfl
  refine hK.out _ _ ⟨((cell_far (p := ⟨gb133, _, none⟩) NB132_133.out _).trans (((cell_far (p := ⟨gb133, _, none⟩) NB132_133.out _).trans (((cell_far (p := ⟨gb133, _, none⟩) NB132_133.out _).trans (((cell_far (p := ⟨gb133, _, none⟩) NB132_133.out _).trans (hHeld.1)))))))), ((cell_far (p := ⟨gb133, _, none⟩) NB132_133.out _).trans (((cell_far (p := ⟨gb133, _, none⟩) NB132_133.out _).trans (((cell_far (p := ⟨gb133, _, none⟩) NB132_133.out _).trans (((cell_far (p := ⟨gb133, _, none⟩) NB132_133.out _).trans (hHeld.2.1)))))))), ((cell_far (p := ⟨gb133, _, none⟩) NB132_133.out _).trans (((cell_far (p := ⟨gb133, _, none⟩) NB132_133.out _).trans (((cell_far (p := ⟨gb133, _, none⟩) NB132_133.out _).trans (((cell_far (p := ⟨gb133, _, none⟩) NB132_133.out _).trans (hHeld.2.2.1)))))))), ((cell_far (p := ⟨gb133, _, none⟩) NB132_133.out _).trans (((cell_far (p := ⟨gb133, _, none⟩) NB132_133.out _).trans (((cell_far (p := ⟨gb133, _, none⟩) NB132_133.out _).trans (((cell_far (p := ⟨gb133, _, none⟩) NB132_133.out _).trans (hHeld.2.2.2))))))))⟩ (fun hHeld => ?_)
  clear hK K
  refine vI (jO HT_.out (by kernel_rfl)) ?_
  try go_wp2
  refine bodyPost_ret (results_cell_row rfl _ _ gb133 27 #[.int .i64 a0_0, .int .i64 a0_1, .int .i64 a0_2, .slice Ao9 y137.length co9] (0, 0) _ rfl (by refine sqK ?_; refine zy (cs := #[.int .i64 a0_0, .int .i64 a0_1, .int .i64 a0_2, .slice none 0 0]) ?_ 3 _ rfl; refine sqK ?_; refine zy (cs := #[.int .i64 a0_0, .int .i64 a0_1, .int .i64 0, .slice none 0 0]) ?_ 2 _ rfl; refine sqK ?_; refine zy (cs := #[.int .i64 a0_0, .int .i64 0, .int .i64 0, .slice none 0 0]) ?_ 1 _ rfl; refine sqK ?_; refine zy (cs := #[.int .i64 0, .int .i64 0, .int .i64 0, .slice none 0 0]) ?_ 0 _ rfl; refine sqK ?_; exact BK133.out) Try.underlying27 rfl (by kernel_rfl)) rfl ?_
  exact ⟨_, sqE, by refine sqR ?_; exact Kd.zo (Kd.zj (p := ⟨gb133, 3, none⟩) (Kd.zj (p := ⟨gb133, 2, none⟩) (Kd.zj (p := ⟨gb133, 1, none⟩) (Kd.zj (p := ⟨gb133, 0, none⟩) (Kd.zF HO139.out BK133.out (by decide)) (fun _ hk => hk.2) (.int .i64 a0_0)) (fun _ hk => hk.2) (.int .i64 a0_1)) (fun _ hk => hk.2) (.int .i64 a0_2)) (fun _ hk => hk.2) (.slice Ao9 y137.length co9)) (fun _ hk => trivial), sqB⟩
 ·rw [if_neg c2] at H
  exact absurd H (by simp)

def zR.l0 : Nat → Int → Int → Int → Int → Int → Int → List Int → Option (List Int)
 | 0, _, _, _, _, _, _, _ => none
 | k + 1, x1, x2, x6, x141000, x141001, x141002, x141003 => if x6 < x141002 then (if 0 ≤ (wrap64 ((wrap64 (x1 * x141002)) + x6)) then (if (wrap64 ((wrap64 (x1 * x141002)) + x6)) < (x141003.length : Int) then (if 0 ≤ (wrap64 ((wrap64 (x2 * x141002)) + x6)) then (if (wrap64 ((wrap64 (x2 * x141002)) + x6)) < (x141003.length : Int) then (zR.l0 k x1 x2 (wrap64 (x6 + 1)) x141000 x141001 x141002 ((x141003.set ((wrap64 ((wrap64 (x1 * x141002)) + x6)) : Int).toNat (rd x141003 (wrap64 ((wrap64 (x2 * x141002)) + x6)))).set ((wrap64 ((wrap64 (x2 * x141002)) + x6)) : Int).toNat (rd x141003 (wrap64 ((wrap64 (x1 * x141002)) + x6))))) else (none)) else (none)) else (none)) else (none)) else (some x141003)
def zR.f (k : Nat) (a0_0 : Int) (a0_1 : Int) (a0_2 : Int) (l0_3 : List Int) (a1 : Int) (a2 : Int) : Option (List Int) := zR.l0 k a1 a2 0 a0_0 a0_1 a0_2 l0_3
def zR.T5 : Bool × List (List Nat × List Nat) := (true, [([], []), ([0], [0]), ([], []), ([], []), ([3], [3]), ([2, 4], [2, 4]), ([], []), ([5, 6], [5, 6]), ([], []), ([8], [8]), ([], []), ([], []), ([11], [11]), ([10, 12], [10, 12]), ([], []), ([13, 14], [13, 14]), ([9, 15], [9, 15]), ([16], [16]), ([1, 7, 0, 1, 2, 3, 4, 5, 6, 7, 8, 9, 10, 11, 12, 13, 14, 15, 16, 17], [1, 7]), ([18, 17, 0, 1, 2, 3, 4, 5, 6, 7, 8, 9, 10, 11, 12, 13, 14, 15, 16, 17], [17, 18])])
def zR.B5 : List Nat := [0, 1, 0, 0, 8, 28, 0, 124, 0, 256, 0, 0, 2048, 7168, 0, 31744, 65280, 130816, 262143, 524287]
theorem zR.zaa : jQ .any (opsOf Try.f61 5) = zR.T5 := by kernel_rfl
theorem zR.VI : jf zR.T5.2 zR.B5 = true := by kernel_rfl
theorem zR.calls (k : Nat) (a0_0 : Int) (a0_1 : Int) (a0_2 : Int) (P0_3_ : Nat → Prop) (u9000_ : Value) (l0_3 : List Int) (a1 : Int) (a2 : Int) (r : List Int) (w0 w : World) (hB : Below w0.heap.size w0 w) (ho0_3 : Kd.R (Kd.int .i64) 3 w w0.heap.size P0_3_ u9000_ l0_3) (h : zR.f k a0_0 a0_1 a0_2 l0_3 a1 a2 = some r) :
  Calls Try.prog 61 #[.agg #[.int .i64 a0_0, .int .i64 a0_1, .int .i64 a0_2, u9000_], .int .i64 a1, .int .i64 a2] w fun e w' => e = .returned (.tuple #[]) ∧ Kd.R (Kd.int .i64) 3 w' w0.heap.size (fun k_ => (P0_3_ k_ ∨ w.heap.size ≤ k_)) u9000_ r ∧ Below w0.heap.size w0 w' ∧ Kept w w' (fun k_ => P0_3_ k_) := by
 have hu27 := Try.underlying27
 have HO0_3 := Aside0.mk (show Kd.R (Kd.int .i64) 3 w w0.heap.size (fun k_ => (P0_3_ k_ ∨ w.heap.size ≤ k_)) u9000_ l0_3 from Kd.zo ho0_3 (fun k_ hk => (.inl hk)))
 have HK := Aside0.mk (Kept.refl w (fun k_ => P0_3_ k_))
 have HW0 := Aside0.mk hB.size
 have HB := Aside0.mk hB
 clear hB
 have H : (zR.l0 k a1 a2 0 a0_0 a0_1 a0_2 l0_3) = some r := h
 clear h
 have H' := Aside0.mk H
 clear H
 obtain ⟨Ao4, co4, eo4⟩ := Kd.zU HO0_3.out
 subst eo4
 go_enter Try.func61, Try.ntmps61
 go_wp2_with (first | ((with_reducible refine zC (N := 3) rfl ?_); refine zD ?hg (N := 3) ?hd (cs := #[.int .i64 a0_0, .int .i64 a0_1, .int .i64 a0_2, .slice Ao4 l0_3.length co4]) (t := 27) ?hr ?_; (case hd => rfl); (case hg => rfl); (case hr => exact sqG); intro gb140 hg w5 hbox hb; have n0_ := Aside0.mk (Kd.zG (sqR HO0_3.out) hb); have n1_ := Aside0.mk (Kept.below (S := (fun k_ => P0_3_ k_)) (by repeat (first | (with_reducible first | exact HK.out | apply Kept.alloc | apply Kept.drewN | apply Kept.drew) | exact HK.out)) hb); have n2_ := Aside0.mk (zg sqB hb); have n3_ := Aside0.mk (hbox); have n4_ := Aside0.mk ((by rw [hg]; exact (by first | exact HK.out.1 | exact (show Kept w _ (fun k_ => P0_3_ k_) from by repeat (first | (with_reducible first | exact HK.out | apply Kept.alloc | apply Kept.drewN | apply Kept.drew) | exact HK.out)).1) : w.heap.size ≤ gb140)); have n5_ := Aside0.mk ((sqS hg : w0.heap.size ≤ gb140)); clear HO0_3; clear HK; clear HB; have HO0_3 := n0_; have HK := n1_; have HB := n2_; have BK140 := n3_; have GW140 := n4_; have GE140 := n5_; clear n0_ n1_ n2_ n3_ n4_ n5_; clear hb hbox hg))
 go_loopg [6] k (fun kq v6 w' => ∃ (x6_1 : Int) (x141003_1 : List Int), v6 = .int .i64 x6_1 ∧ Aside0 (zR.l0 kq a1 a2 x6_1 a0_0 a0_1 a0_2 x141003_1 = some r) ∧ Aside0 (kq ≤ k) ∧ Aside0 (Kd.R (Kd.int .i64) 3 w' w0.heap.size (fun k_ => (P0_3_ k_ ∨ w.heap.size ≤ k_)) (.slice Ao4 l0_3.length co4) x141003_1) ∧ Aside0 (w'.heap[gb140]? = some (.cells #[.int .i64 a0_0, .int .i64 a0_1, .int .i64 a0_2, (.slice Ao4 l0_3.length co4)] 27 (0, 0))) ∧ Aside0 (Kept w w' (fun k_ => P0_3_ k_)) ∧ Aside0 (Below w0.heap.size w0 w'))
 case atStart => exact ⟨(0), (l0_3), (sqD), H', ⟨Nat.le_refl _⟩, ⟨sqR HO0_3.out⟩, ⟨sqK BK140.out⟩, ⟨by repeat (first | (with_reducible first | exact HK.out | apply Kept.alloc | apply Kept.drewN | apply Kept.drew | refine Kept.setCell ?_ (.inr GW140.out) _) | exact HK.out)⟩, ⟨sqB⟩⟩
 case round =>
  clear H'
  try clear p2
  obtain ⟨x6_1, x141003_1, rfl, HA, HK1, HO_141003, BK140, HK, HB⟩ := hrel
  have hl141003_1 := (Kd.zu HO_141003.out).1
  rw [hl141003_1] at HO_141003
  (try simp only [hl141003_1])
  (try simp only [hl141003_1] at BK140)
  cases gk with
  | zero => exact absurd HA.out (by simp [zR.l0])
  | succ k1 =>
   have H := HA.out
   clear HA
   simp only [zR.l0] at H
   by_cases c6 : x6_1 < a0_2
   ·rw [if_pos c6] at H
    have c6b0 : decide (x6_1 < a0_2) = true := decide_eq_true c6
    clear c6
    obtain ⟨ji7, hji7⟩ : ∃ j_ : Int, (wrap64 ((wrap64 (a1 * a0_2)) + x6_1)) = j_ := ⟨_, rfl⟩
    replace H : (if 0 ≤ (ji7) then (if (ji7) < (x141003_1.length : Int) then (if 0 ≤ (wrap64 ((wrap64 (a2 * a0_2)) + x6_1)) then (if (wrap64 ((wrap64 (a2 * a0_2)) + x6_1)) < (x141003_1.length : Int) then (zR.l0 k1 a1 a2 (wrap64 (x6_1 + 1)) a0_0 a0_1 a0_2 ((x141003_1.set ((ji7) : Int).toNat (rd x141003_1 (wrap64 ((wrap64 (a2 * a0_2)) + x6_1)))).set ((wrap64 ((wrap64 (a2 * a0_2)) + x6_1)) : Int).toNat (rd x141003_1 (ji7)))) else (none)) else (none)) else (none)) else (none)) = some r := by first | (rw [hji7] at H; exact H) | (simp only [hji7] at H ⊢; exact H)
    have hji7w : (IntKind.i64.wrap ((wrap64 (a1 * a0_2)) + x6_1)) = ji7 := (zf _).trans hji7
    by_cases c8 : 0 ≤ (ji7)
    ·rw [if_pos c8] at H
     have c8b0 : decide (0 ≤ (ji7)) = true := decide_eq_true c8
     clear c8
     by_cases c9 : (ji7) < (x141003_1.length : Int)
     ·rw [if_pos c9] at H
      have c9b0 : decide ((ji7) < (x141003_1.length : Int)) = true := decide_eq_true c9
      (try simp only [hl141003_1] at c9b0)
      clear c9
      obtain ⟨ji10, hji10⟩ : ∃ j_ : Int, (wrap64 ((wrap64 (a2 * a0_2)) + x6_1)) = j_ := ⟨_, rfl⟩
      replace H : (if 0 ≤ (ji10) then (if (ji10) < (x141003_1.length : Int) then (zR.l0 k1 a1 a2 (wrap64 (x6_1 + 1)) a0_0 a0_1 a0_2 ((x141003_1.set ((ji7) : Int).toNat (rd x141003_1 (ji10))).set ((ji10) : Int).toNat (rd x141003_1 (ji7)))) else (none)) else (none)) = some r := by first | (rw [hji10] at H; exact H) | (simp only [hji10] at H ⊢; exact H)
      have hji10w : (IntKind.i64.wrap ((wrap64 (a2 * a0_2)) + x6_1)) = ji10 := (zf _).trans hji10
      by_cases c11 : 0 ≤ (ji10)
      ·rw [if_pos c11] at H
       have c11b0 : decide (0 ≤ (ji10)) = true := decide_eq_true c11
       clear c11
       by_cases c12 : (ji10) < (x141003_1.length : Int)
       ·rw [if_pos c12] at H
        have c12b0 : decide ((ji10) < (x141003_1.length : Int)) = true := decide_eq_true c12
        (try simp only [hl141003_1] at c12b0)
        clear c12
        obtain ⟨y143, hy143⟩ : ∃ y_ : List Int, y_ = (x141003_1.set ((ji7) : Int).toNat (rd x141003_1 (ji10))) := ⟨_, rfl⟩
        replace H : (zR.l0 k1 a1 a2 (wrap64 (x6_1 + 1)) a0_0 a0_1 a0_2 (y143.set ((ji10) : Int).toNat (rd x141003_1 (ji7)))) = some r := by first | (rw [hy143]; with_reducible exact H) | (have H2_ := (Option.bind_some _ _).symm.trans H; rw [hy143]; with_reducible exact H2_) | (have H2_ := (Option.bind_some _ _).symm.trans H; with_reducible exact H2_) | with_reducible exact H | (rw [hy143]; exact H) | exact H
        have Ny143 := Aside0.mk hy143
        clear hy143
        obtain ⟨y144, hy144⟩ : ∃ y_ : List Int, y_ = (y143.set ((ji10) : Int).toNat (rd x141003_1 (ji7))) := ⟨_, rfl⟩
        replace H : (zR.l0 k1 a1 a2 (wrap64 (x6_1 + 1)) a0_0 a0_1 a0_2 y144) = some r := by first | (rw [hy144]; with_reducible exact H) | (have H2_ := (Option.bind_some _ _).symm.trans H; rw [hy144]; with_reducible exact H2_) | (have H2_ := (Option.bind_some _ _).symm.trans H; with_reducible exact H2_) | with_reducible exact H | (rw [hy144]; exact H) | exact H
        have Ny144 := Aside0.mk hy144
        clear hy144
        have H' := Aside0.mk H
        clear H
        have hcz15_0 : wr.cell? ⟨gb140, 0, none⟩ = some (.int .i64 a0_0) := (zb BK140.out 0).trans rfl
        have hcz15_1 : wr.cell? ⟨gb140, 1, none⟩ = some (.int .i64 a0_1) := (zb BK140.out 1).trans rfl
        have hcz15_2 : wr.cell? ⟨gb140, 2, none⟩ = some (.int .i64 a0_2) := (zb BK140.out 2).trans rfl
        have hcz15_3 : wr.cell? ⟨gb140, 3, none⟩ = some (.slice Ao4 x141003_1.length co4) := (zb BK140.out 3).trans rfl
        have hfz15_0 := za BK140.out 0; have hfz15_1 := za BK140.out 1; have hfz15_2 := za BK140.out 2; have hfz15_3 := za BK140.out 3
        have p141 : 0 ≤ ((ji7) : Int) := of_decide_eq_true sqA
        have q141 : (ji7) < (x141003_1.length : Int) := of_decide_eq_true sqA
        obtain ⟨ad141, e141, hx141_0⟩ := Kd.qh (Kd.zu HO_141003.out).2.2 (ji7) p141 q141
        cases e141
        replace p141 := eq_true p141
        replace q141 := eq_true q141
        try go_wp2
        have n0_ := Aside0.mk (Kd.qM HO_141003.out)
        have n1_ := Aside0.mk (qd BK140.out)
        have n2_ := Aside0.mk (Kept.drew HK.out)
        have n3_ := Aside0.mk (zT HB.out)
        clear HO_141003 BK140 HK HB; have HO_141003 := n0_; have BK140 := n1_; have HK := n2_; have HB := n3_; clear n0_ n1_ n2_ n3_
        have p142 : 0 ≤ ((ji10) : Int) := of_decide_eq_true sqA
        have q142 : (ji10) < (x141003_1.length : Int) := of_decide_eq_true sqA
        obtain ⟨ad142, e142, hx142_0⟩ := Kd.qh (Kd.zu HO_141003.out).2.2 (ji10) p142 q142
        obtain rfl : ad141 = ad142 := (by injection e142)
        replace p142 := eq_true p142
        replace q142 := eq_true q142
        have p13 : 0 ≤ ((ji7) : Int) := of_decide_eq_true sqA
        have q13 : ((ji7) : Int) < ((x141003_1.length : Int) : Int) := of_decide_eq_true sqA
        obtain ⟨go13, co13, eo13, gb13, gl13, cl13, HG13⟩ := Kd.vq HO_141003.out (by omega)
        (first | cases eo13 | (injection eo13 with ea_ en_ ec_; (first | subst ea_ | (injection ea_ with ea_; subst ea_)); subst ec_; clear en_))
        (try simp only [add_plain] at *)
        have GB13 := Aside0.mk gb13
        have GG13 := Aside0.mk HG13
        clear gb13 gl13 HG13
        have HMgo13 := Aside0.mk (show (P0_3_ go13 ∨ w.heap.size ≤ go13) from (HO_141003.out.1 _ rfl))
        (first | simp only [add_plain] at hx141_0 | skip)
        (first | simp only [add_plain] at hx142_0 | skip)
        obtain ⟨hx13_0, hf13_0⟩ := Kd.qX 0 HO_141003.out ((ji7) : Int) p13 q13
        replace p13 := eq_true p13
        replace q13 := eq_true q13
        have HP17 := Kd.Zr HO_141003.out ((ji7) : Int) (rd x141003_1 (ji10))
        rw [← Ny143.out] at HP17
        have HQ17 := Aside0.mk HP17
        clear HP17
        refine jU (n := 20) (S := fun w' => w'.cell? ⟨gb140, 0, none⟩ = some (.int .i64 a0_0) ∧ w'.cell? ⟨gb140, 1, none⟩ = some (.int .i64 a0_1) ∧ w'.cell? ⟨gb140, 2, none⟩ = some (.int .i64 a0_2) ∧ w'.cell? ⟨gb140, 3, none⟩ = some (.slice (some ⟨go13, 0, none⟩) x141003_1.length co4) ∧ w'.cell? ⟨go13, ((ji10)).toNat, none⟩ = some (.int .i64 (rd x141003_1 (ji10)))) (ds := [19]) #[false, false, false, false, false, false, false, false, false, false, false, false, false, false, false, false, false, false, false, false] (by kernel_rfl) rfl rfl ⟨(zb BK140.out 0).trans rfl, (zb BK140.out 1).trans rfl, (zb BK140.out 2).trans rfl, (zb BK140.out 3).trans rfl, hx142_0⟩ (fun hHeld => ?_); refine qZ zR.zaa zR.VI (fun HT_ HW_ => ?_)
        generalize wr.drew = w16 at HO_141003 BK140 HK HB GG13 HQ17 hf13_0 hx13_0 hx141_0 hx142_0 hHeld ⊢
        refine zx (i := 0) (N := some 24) (v := ?_) (a' := ?_) #[true, false, false, false, false, false, false, false, false, false, false, false, false, false, false, false, false, false, false, false] rfl rfl (zn HT_.out (by kernel_rfl)) (fun _ _ _ h => h) (Or.inl ⟨by rfl, ?_⟩) ?_ ?_
        rotate_left
        ·intro w'; go_simp; with_reducible rfl
        rotate_left
        ·simp only [Act.put, List.setIfInBounds_toArray, List.set_cons_zero, List.set_cons_succ, zf, zh]; rfl
        refine zx (i := 2) (N := some 26) (v := ?_) (a' := ?_) #[true, false, true, false, false, false, false, false, false, false, false, false, false, false, false, false, false, false, false, false] rfl rfl (zn HT_.out (by kernel_rfl)) (fun _ _ _ h => h) (Or.inl ⟨by rfl, ?_⟩) ?_ ?_
        rotate_left
        ·intro w'; go_simp; with_reducible rfl
        rotate_left
        ·simp only [Act.put, List.setIfInBounds_toArray, List.set_cons_zero, List.set_cons_succ, zf, zh]; rfl
        refine zx (i := 3) (N := some 27) (v := ?_) (a' := ?_) #[true, false, true, true, false, false, false, false, false, false, false, false, false, false, false, false, false, false, false, false] rfl rfl (zn HT_.out (by kernel_rfl)) (fun _ _ _ h => h) (Or.inl ⟨by rfl, ?_⟩) ?_ ?_
        rotate_left
        ·intro w'; go_simp; with_reducible rfl
        rotate_left
        ·simp only [Act.put, List.setIfInBounds_toArray, List.set_cons_zero, List.set_cons_succ, zf, zh]; rfl
        refine zx (i := 6) (N := some 30) (v := ?_) (a' := ?_) #[true, false, true, true, false, false, true, false, false, false, false, false, false, false, false, false, false, false, false, false] rfl rfl (zn HT_.out (by kernel_rfl)) (fun _ _ _ h => h) (Or.inl ⟨by rfl, ?_⟩) ?_ ?_
        rotate_left
        ·intro w'; go_simp; with_reducible rfl
        rotate_left
        ·simp only [Act.put, List.setIfInBounds_toArray, List.set_cons_zero, List.set_cons_succ, zf, zh]; rfl
        refine zx (i := 8) (N := some 32) (v := ?_) (a' := ?_) #[true, false, true, true, false, false, true, false, true, false, false, false, false, false, false, false, false, false, false, false] rfl rfl (zn HT_.out (by kernel_rfl)) (fun _ _ _ h => h) (Or.inl ⟨by rfl, ?_⟩) ?_ ?_
        rotate_left
        ·intro w'; go_simp; with_reducible rfl
        rotate_left
        ·simp only [Act.put, List.setIfInBounds_toArray, List.set_cons_zero, List.set_cons_succ, zf, zh]; rfl
        refine zx (i := 10) (N := some 34) (v := ?_) (a' := ?_) #[true, false, true, true, false, false, true, false, true, false, true, false, false, false, false, false, false, false, false, false] rfl rfl (zn HT_.out (by kernel_rfl)) (fun _ _ _ h => h) (Or.inl ⟨by rfl, ?_⟩) ?_ ?_
        rotate_left
        ·intro w'; go_simp; with_reducible rfl
        rotate_left
        ·simp only [Act.put, List.setIfInBounds_toArray, List.set_cons_zero, List.set_cons_succ, zf, zh]; rfl
        refine zx (i := 11) (N := some 35) (v := ?_) (a' := ?_) #[true, false, true, true, false, false, true, false, true, false, true, true, false, false, false, false, false, false, false, false] rfl rfl (zn HT_.out (by kernel_rfl)) (fun _ _ _ h => h) (Or.inl ⟨by rfl, ?_⟩) ?_ ?_
        rotate_left
        ·intro w'; go_simp; with_reducible rfl
        rotate_left
        ·simp only [Act.put, List.setIfInBounds_toArray, List.set_cons_zero, List.set_cons_succ, zf, zh]; rfl
        refine zx (i := 14) (N := some 38) (v := ?_) (a' := ?_) #[true, false, true, true, false, false, true, false, true, false, true, true, false, false, true, false, false, false, false, false] rfl rfl (zn HT_.out (by kernel_rfl)) (fun _ _ _ h => h) (Or.inl ⟨by rfl, ?_⟩) ?_ ?_
        rotate_left
        ·intro w'; go_simp; with_reducible rfl
        rotate_left
        ·simp only [Act.put, List.setIfInBounds_toArray, List.set_cons_zero, List.set_cons_succ, zf, zh]; rfl
        refine qe (i := 1) (N := some 25) (v := ?_) (a' := ?_) #[true, true, true, true, false, false, true, false, true, false, true, true, false, false, true, false, false, false, false, false] rfl rfl (zM HT_.out HW_.out (by kernel_rfl)) (fun _ _ _ h => h) (Or.inl ⟨by rfl, ?_⟩) hHeld ?_ ?_
        rotate_left
        ·rintro w' ⟨s0, s1, s2, s3, s4⟩; go_simp; with_reducible rfl
        rotate_left
        ·simp only [Act.put, List.setIfInBounds_toArray, List.set_cons_zero, List.set_cons_succ, zf, zh]; rfl
        refine qe (i := 4) (N := some 28) (v := ?_) (a' := ?_) #[true, true, true, true, true, false, true, false, true, false, true, true, false, false, true, false, false, false, false, false] rfl rfl (zM HT_.out HW_.out (by kernel_rfl)) (fun _ _ _ h => h) (Or.inl ⟨by rfl, ?_⟩) hHeld ?_ ?_
        rotate_left
        ·rintro w' ⟨s0, s1, s2, s3, s4⟩; go_simp; with_reducible rfl
        rotate_left
        ·simp only [Act.put, List.setIfInBounds_toArray, List.set_cons_zero, List.set_cons_succ, zf, zh]; rfl
        refine zx (i := 5) (N := some 29) (v := ?_) (a' := ?_) #[true, true, true, true, true, true, true, false, true, false, true, true, false, false, true, false, false, false, false, false] rfl rfl (zn HT_.out (by kernel_rfl)) (fun _ _ _ h => h) (Or.inl ⟨by rfl, ?_⟩) ?_ ?_
        rotate_left
        ·intro w'; go_simp; with_reducible rfl
        rotate_left
        ·simp only [Act.put, List.setIfInBounds_toArray, List.set_cons_zero, List.set_cons_succ, zf, zh]; rfl
        refine zx (i := 7) (N := some 31) (v := ?_) (a' := ?_) #[true, true, true, true, true, true, true, true, true, false, true, true, false, false, true, false, false, false, false, false] rfl rfl (zn HT_.out (by kernel_rfl)) (fun _ _ _ h => h) (Or.inl ⟨by rfl, ?_⟩) ?_ ?_
        rotate_left
        ·intro w'; go_simp; with_reducible rfl
        rotate_left
        ·simp only [Act.put, List.setIfInBounds_toArray, List.set_cons_zero, List.set_cons_succ, zf, zh]; rfl
        refine qe (i := 9) (N := some 33) (v := ?_) (a' := ?_) #[true, true, true, true, true, true, true, true, true, true, true, true, false, false, true, false, false, false, false, false] rfl rfl (zM HT_.out HW_.out (by kernel_rfl)) (fun _ _ _ h => h) (Or.inl ⟨by rfl, ?_⟩) hHeld ?_ ?_
        rotate_left
        ·rintro w' ⟨s0, s1, s2, s3, s4⟩; go_simp; with_reducible rfl
        rotate_left
        ·simp only [Act.put, List.setIfInBounds_toArray, List.set_cons_zero, List.set_cons_succ, zf, zh]; rfl
        refine qe (i := 12) (N := some 36) (v := ?_) (a' := ?_) #[true, true, true, true, true, true, true, true, true, true, true, true, true, false, true, false, false, false, false, false] rfl rfl (zM HT_.out HW_.out (by kernel_rfl)) (fun _ _ _ h => h) (Or.inl ⟨by rfl, ?_⟩) hHeld ?_ ?_
        rotate_left
        ·rintro w' ⟨s0, s1, s2, s3, s4⟩; go_simp; with_reducible rfl
        rotate_left
        ·simp only [Act.put, List.setIfInBounds_toArray, List.set_cons_zero, List.set_cons_succ, zf, zh]; rfl
        refine zx (i := 13) (N := some 37) (v := ?_) (a' := ?_) #[true, true, true, true, true, true, true, true, true, true, true, true, true, true, true, false, false, false, false, false] rfl rfl (zn HT_.out (by kernel_rfl)) (fun _ _ _ h => h) (Or.inl ⟨by rfl, ?_⟩) ?_ ?_
        rotate_left
        ·intro w'; go_simp; with_reducible rfl
        rotate_left
        ·simp only [Act.put, List.setIfInBounds_toArray, List.set_cons_zero, List.set_cons_succ, zf, zh]; rfl
        refine zx (i := 15) (N := some 39) (v := ?_) (a' := ?_) #[true, true, true, true, true, true, true, true, true, true, true, true, true, true, true, true, false, false, false, false] rfl rfl (zn HT_.out (by kernel_rfl)) (fun _ _ _ h => h) (Or.inl ⟨by rfl, ?_⟩) ?_ ?_
        rotate_left
        ·intro w'; go_simp; with_reducible rfl
        rotate_left
        ·simp only [Act.put, List.setIfInBounds_toArray, List.set_cons_zero, List.set_cons_succ, zf, zh]; rfl
        refine zx (i := 16) (N := some 40) (v := ?_) (a' := ?_) #[true, true, true, true, true, true, true, true, true, true, true, true, true, true, true, true, true, false, false, false] rfl rfl (zn HT_.out (by kernel_rfl)) (fun _ _ _ h => h) (Or.inl ⟨by rfl, ?_⟩) ?_ ?_
        rotate_left
        ·intro w'; go_simp; with_reducible rfl
        rotate_left
        ·simp only [Act.put, List.setIfInBounds_toArray, List.set_cons_zero, List.set_cons_succ, zf, zh]; rfl
        refine qe (i := 17) (N := some 41) (v := ?_) (a' := ?_) #[true, true, true, true, true, true, true, true, true, true, true, true, true, true, true, true, true, true, false, false] rfl rfl (zM HT_.out HW_.out (by kernel_rfl)) (fun _ _ _ h => h) (Or.inl ⟨by rfl, ?_⟩) hHeld ?_ ?_
        rotate_left
        ·rintro w' ⟨s0, s1, s2, s3, s4⟩; go_simp; with_reducible rfl
        rotate_left
        ·simp only [Act.put, List.setIfInBounds_toArray, List.set_cons_zero, List.set_cons_succ, zf, zh]; rfl
        refine zx (i := 18) (N := some 42) (v := ?_) (a' := ?_) #[true, true, true, true, true, true, true, true, true, true, true, true, true, true, true, true, true, true, true, false] rfl rfl (zn HT_.out (by kernel_rfl)) (fun _ _ _ h => h) (Or.inl ⟨by rfl, ?_⟩) ?_ ?_
        rotate_left
        ·intro w'; go_simp; with_reducible rfl
        rotate_left
        ·simp only [Act.put, List.setIfInBounds_toArray, List.set_cons_zero, List.set_cons_succ, zf, zh]; rfl
        refine ym (i := 19) (N := none) #[true, true, true, true, true, true, true, true, true, true, true, true, true, true, true, true, true, true, true, true] rfl rfl (jr HT_.out (by kernel_rfl)) (by decide) (fun K hK => ?_)
        refine yj (w1 := ?_) (by rfl) rfl ?_ ?_
        rotate_left
        ·go_simp
         rfl
        refine hK.out _ _ ?_
        clear hK K
        refine vI (jO HT_.out (by kernel_rfl)) ?_
        have n0_ : Aside0 (Kd.R (Kd.int .i64) 3 (w16.setCell ⟨go13, ((ji7) : Int).toNat, none⟩ (.int .i64 (rd x141003_1 (ji10)))) w0.heap.size (fun k_ => (P0_3_ k_ ∨ w.heap.size ≤ k_)) (.slice (some ⟨go13, 0, none⟩) x141003_1.length co4) y143) := ⟨sqR HQ17.out⟩
        have n1_ : Aside0 ((w16.setCell ⟨go13, ((ji7) : Int).toNat, none⟩ (.int .i64 (rd x141003_1 (ji10)))).heap[gb140]? = some (.cells #[.int .i64 a0_0, .int .i64 a0_1, .int .i64 a0_2, .slice (some ⟨go13, 0, none⟩) x141003_1.length co4] 27 (0, 0))) := ⟨by refine sqK ?_; refine zi ?_ (by have h_ := Kd.qH HO_141003.out BK140.out (by decide); intro e_; exact h_ (by rw [e_]; rfl)) _; refine sqK ?_; exact BK140.out⟩
        have n2_ : Aside0 (Kept w (w16.setCell ⟨go13, ((ji7) : Int).toNat, none⟩ (.int .i64 (rd x141003_1 (ji10)))) (fun k_ => P0_3_ k_)) := ⟨by repeat (first | (with_reducible first | exact HK.out | apply Kept.alloc | apply Kept.drewN | apply Kept.drew | refine Kept.setCell ?_ HMgo13.out _ | refine Kept.setCell ?_ (.inr GW140.out) _) | exact HK.out)⟩
        have n3_ : Aside0 (Below w0.heap.size w0 (w16.setCell ⟨go13, ((ji7) : Int).toNat, none⟩ (.int .i64 (rd x141003_1 (ji10))))) := ⟨by repeat (first | (with_reducible first | exact HB.out | apply qc | apply z6 | apply zT | refine zO ?_ GB13.out | refine zO ?_ GE140.out) | exact HB.out)⟩
        (try clear HO_141003); (try clear BK140); (try clear HK); (try clear HB)
        generalize (w16.setCell ⟨go13, ((ji7) : Int).toNat, none⟩ (.int .i64 (rd x141003_1 (ji10)))) = w18 at n0_ n1_ n2_ n3_ ⊢
        have HO_141003 := n0_; have BK140 := n1_; have HK := n2_; have HB := n3_; clear n0_ n1_ n2_ n3_
        have hcz19_0 : w18.cell? ⟨gb140, 0, none⟩ = some (.int .i64 a0_0) := (zb BK140.out 0).trans rfl
        have hcz19_1 : w18.cell? ⟨gb140, 1, none⟩ = some (.int .i64 a0_1) := (zb BK140.out 1).trans rfl
        have hcz19_2 : w18.cell? ⟨gb140, 2, none⟩ = some (.int .i64 a0_2) := (zb BK140.out 2).trans rfl
        have hcz19_3 : w18.cell? ⟨gb140, 3, none⟩ = some (.slice (some ⟨go13, 0, none⟩) x141003_1.length co4) := (zb BK140.out 3).trans rfl
        have hfz19_0 := za BK140.out 0; have hfz19_1 := za BK140.out 1; have hfz19_2 := za BK140.out 2; have hfz19_3 := za BK140.out 3
        have p14 : 0 ≤ ((ji10) : Int) := of_decide_eq_true sqA
        have q14 : ((ji10) : Int) < ((x141003_1.length : Int) : Int) := of_decide_eq_true sqA
        obtain ⟨hx14_0, hf14_0⟩ := Kd.qX 0 HO_141003.out ((ji10) : Int) p14 q14
        replace p14 := eq_true p14
        replace q14 := eq_true q14
        obtain ⟨hy20_, hz20_⟩ := Kd.qX 0 HO_141003.out ((ji10) : Int) (of_decide_eq_true sqA) (of_decide_eq_true sqA)
        have HP20 := Kd.ye HO_141003.out ((ji10) : Int) (rd x141003_1 (ji7))
        try go_wp2_with (first | ((with_reducible refine jH (t := 3) (p := 52) rfl ?_); refine jt (t := 3) (p := 52) (v := ?vo_w21) (w1 := (w18.setCell ⟨go13, ((ji10) : Int).toNat, none⟩ (.int .i64 (rd x141003_1 (ji7))))) ?hg ?ho ?hn ?hr ?_; (case ho => rfl); (case hg => rfl); (case hn => rfl); (case hr => exact sqG); intro w21 hw; have hg : w18.grownBy w21 (some go13) := (by rw [hw]; exact HP20.2); have hp_ : Kd.R (Kd.int .i64) 3 w21 w0.heap.size (fun k_ => (P0_3_ k_ ∨ w.heap.size ≤ k_)) (.slice (some ⟨go13, 0, none⟩) x141003_1.length co4) y144 := (by rw [hw, Ny144.out]; exact HP20.1); clear HP20; have n0_ := Aside0.mk (hp_); have n1_ := Aside0.mk (zX (g := gb140) (o := .cells #[.int .i64 a0_0, .int .i64 a0_1, .int .i64 a0_2, .slice (some ⟨go13, 0, none⟩) x141003_1.length co4] 27 (0, 0)) (sqK BK140.out) hg (Kd.qH HO_141003.out BK140.out (by decide))); have n2_ := Aside0.mk ((by rw [hw]; exact zO (HB.out) GB13.out : Below w0.heap.size w0 w21)); have n3_ := Aside0.mk (Kept.ZK (S := (fun k_ => P0_3_ k_)) hg (by repeat (first | (with_reducible first | exact HK.out | apply Kept.alloc | apply Kept.drewN | apply Kept.drew | refine Kept.setCell ?_ (.inr GW140.out) _) | exact HK.out)) (fun k_ e_ => (HO_141003.out.1 k_ e_))); clear HO_141003; clear BK140; clear HB; clear HK; have HO_141003 := n0_; have BK140 := n1_; have HB := n2_; have HK := n3_; clear n0_ n1_ n2_ n3_; clear hg hw hp_))
        (try simp only [← hl141003_1])
        go_roundg k1
        case measure => have := HK1.out; omega
        case rel => exact ⟨(wrap64 (x6_1 + 1)), (y144), (sqD), H', ⟨by have := HK1.out; omega⟩, ⟨by (try simp only [hl141003_1]); refine sqR ?_; exact HO_141003.out⟩, ⟨by (try simp only [hl141003_1]); refine sqK ?_; exact BK140.out⟩, ⟨by repeat (first | (with_reducible first | exact HK.out | apply Kept.alloc | apply Kept.drewN | apply Kept.drew | refine Kept.setCell ?_ (.inr GW140.out) _) | exact HK.out)⟩, ⟨sqB⟩⟩
       ·rw [if_neg c12] at H
        exact absurd H (by simp)
      ·rw [if_neg c11] at H
       exact absurd H (by simp)
     ·rw [if_neg c9] at H
      exact absurd H (by simp)
    ·rw [if_neg c8] at H
     exact absurd H (by simp)
   ·rw [if_neg c6] at H
    have c6b0 : decide (x6_1 < a0_2) = false := decide_eq_false c6
    clear c6
    obtain rfl := Option.some.inj H
    have hcz22_0 : wr.cell? ⟨gb140, 0, none⟩ = some (.int .i64 a0_0) := (zb BK140.out 0).trans rfl
    have hcz22_1 : wr.cell? ⟨gb140, 1, none⟩ = some (.int .i64 a0_1) := (zb BK140.out 1).trans rfl
    have hcz22_2 : wr.cell? ⟨gb140, 2, none⟩ = some (.int .i64 a0_2) := (zb BK140.out 2).trans rfl
    have hcz22_3 : wr.cell? ⟨gb140, 3, none⟩ = some (.slice Ao4 x141003_1.length co4) := (zb BK140.out 3).trans rfl
    have hfz22_0 := za BK140.out 0; have hfz22_1 := za BK140.out 1; have hfz22_2 := za BK140.out 2; have hfz22_3 := za BK140.out 3
    go_wp2
    first | go_end0 | ((try simp only [Exit.inBlock, Exit.then]); refine bodyPost_ret (results_none rfl _ _ _) rfl ?_)
    exact ⟨sqE, (by first | exact (sqR HO_141003.out) | (simp only [hl141003_1]; exact (sqR HO_141003.out))), sqB, by repeat (first | (with_reducible first | exact HK.out | apply Kept.alloc | apply Kept.drewN | apply Kept.drew | refine Kept.setCell ?_ (.inr GW140.out) _) | exact HK.out)⟩

mutual
def zA.j0 : Nat → Int → Int → Bool → Option (Int)
 | 0, _, _, _ => none
 | k + 1, x0, x1, x15 => if x15 = true then (some 0) else (zA.l0 k x0 x1 1)
def zA.l0 : Nat → Int → Int → Int → Option (Int)
 | 0, _, _, _ => none
 | k + 1, x0, x1, x5 => if x5 < x0 then (if x0 = 0 then (none) else (if (Int.tmod (wrap64 (x1 * x5)) x0) = 1 then (some x5) else (zA.l0 k x0 x1 (wrap64 (x5 + 1))))) else (some 0)
end
def zA.f (k : Nat) (a0 : Int) (a1 : Int) : Option (Int) := (zW.f a0).bind fun t145 => (if t145 = true then ((zL.f a1 1 (wrap64 (a0 - 1))).bind fun t146 => (zA.j0 k a0 a1 (!t146))) else (zA.j0 k a0 a1 true))
theorem zA.calls (k : Nat) (a0 : Int) (a1 : Int) (r : Int) (w : World) (h : zA.f k a0 a1 = some r) :
  Calls Try.prog 73 #[.int .i64 a0, .int .i64 a1] w fun e w' => e = .returned (.int .i64 r) ∧ zw w w' := by
 have H : ((zW.f a0).bind fun t145 => (if t145 = true then ((zL.f a1 1 (wrap64 (a0 - 1))).bind fun t146 => (zA.j0 k a0 a1 (!t146))) else (zA.j0 k a0 a1 true))) = some r := h
 clear h
 have HC3 := Aside0.mk H
 clear H
 go_enter Try.func73, Try.ntmps73
 go_upto_region 1 with (fail)
 go_cut [15] (fun v15 wc => ∃ (kq : Nat) (x15_2 : Bool), v15 = .bool x15_2 ∧ Aside0 (zA.j0 kq a0 a1 x15_2 = some r) ∧ Aside0 (kq ≤ k) ∧ zw w wc)
 case first =>
  have H := HC3.out
  clear HC3
  replace H := Option.bind_eq_some_iff.mp H
  obtain ⟨t145, A40, H⟩ := H
  replace H : (if t145 = true then ((zL.f a1 1 (wrap64 (a0 - 1))).bind fun t146 => (zA.j0 k a0 a1 (!t146))) else (zA.j0 k a0 a1 true)) = some r := H
  have A4 := Aside0.mk A40
  clear A40
  by_cases c5 : t145 = true
  ·subst c5
   have H1 : ((zL.f a1 1 (wrap64 (a0 - 1))).bind fun t146 => (zA.j0 k a0 a1 (!t146))) = some r := by rw [if_pos rfl] at H; exact H
   clear H
   have H := H1
   clear H1
   replace H := Option.bind_eq_some_iff.mp H
   obtain ⟨t146, A60, H⟩ := H
   replace H : (zA.j0 k a0 a1 (!t146)) = some r := H
   have A6 := Aside0.mk A60
   clear A60
   have H' := Aside0.mk H
   clear H
   go_wp2_with (first | ((with_reducible refine zp (f := 66) rfl ?_); refine zP (some 7) rfl rfl Try.func66 (by kernel_rfl) rfl #[.int .i64 a0] rfl sqM ?_; (with_reducible refine (zW.calls a0 true _ A4.out).mono ?_); rintro e w' ⟨rfl, ⟨nd, rfl⟩⟩; refine ⟨_, rfl, ?_⟩) | (go_at_call 43; (try simp only [zf, zh]); (with_reducible refine (zL.calls a1 1 (wrap64 (a0 - 1)) t146 _ A6.out).mono ?_); rintro e w' ⟨rfl, ⟨nd, rfl⟩⟩))
   go_meet
   case rel => exact ⟨_, (!t146), (sqD), H', ⟨by first | omega | exact Nat.le_refl _⟩, by repeat (first | exact zw.refl _ | apply zw.step)⟩
  ·replace c5 := Bool.eq_false_iff.mpr c5
   subst c5
   have H1 : (zA.j0 k a0 a1 true) = some r := by rw [if_neg (show ¬ (false = true) by decide)] at H; exact H
   clear H
   have H := H1
   clear H1
   have H' := Aside0.mk H
   clear H
   go_wp2_with (first | ((with_reducible refine zp (f := 66) rfl ?_); refine zP (some 7) rfl rfl Try.func66 (by kernel_rfl) rfl #[.int .i64 a0] rfl sqM ?_; (with_reducible refine (zW.calls a0 false _ A4.out).mono ?_); rintro e w' ⟨rfl, ⟨nd, rfl⟩⟩; refine ⟨_, rfl, ?_⟩))
   go_meet
   case rel => exact ⟨_, (true), (sqD), H', ⟨by first | omega | exact Nat.le_refl _⟩, by repeat (first | exact zw.refl _ | apply zw.step)⟩
 case rest =>
  clear HC3
  try clear p2
  try clear c5
  try clear c6
  try clear p6
  obtain ⟨kq, x15_2, rfl, HA, HJ2, ⟨mc2, rfl⟩⟩ := hcut
  cases kq with
  | zero => exact absurd HA.out (by simp [zA.j0])
  | succ kj2 =>
   have H := HA.out
   clear HA
   simp only [zA.j0] at H
   by_cases c7 : x15_2 = true
   ·subst c7
    have H1 : (some 0) = some r := by rw [if_pos rfl] at H; exact H
    clear H
    have H := H1
    clear H1
    obtain rfl := Option.some.inj H
    go_wp2
    go_ret
    exact ⟨sqD, by repeat (first | exact zw.refl _ | apply zw.step)⟩
   ·replace c7 := Bool.eq_false_iff.mpr c7
    subst c7
    have H1 : (zA.l0 kj2 a0 a1 1) = some r := by rw [if_neg (show ¬ (false = true) by decide)] at H; exact H
    clear H
    have H := H1
    clear H1
    have H' := Aside0.mk H
    clear H
    go_wp2
    go_loopg [5] kj2 (fun kq v5 w' => ∃ (x5_2 : Int), v5 = .int .i64 x5_2 ∧ Aside0 (zA.l0 kq a0 a1 x5_2 = some r) ∧ Aside0 (kq ≤ kj2) ∧ zw w w')
    case atStart => exact ⟨(1), (sqD), H', ⟨Nat.le_refl _⟩, by repeat (first | exact zw.refl _ | apply zw.step)⟩
    case round =>
     clear H'
     try clear c2
     try clear p2
     try clear c5
     try clear c6
     try clear p6
     try clear c7
     try clear p2
     try clear p6
     obtain ⟨x5_2, rfl, HA, HK2, ⟨m2, rfl⟩⟩ := hrel
     cases gk with
     | zero => exact absurd HA.out (by simp [zA.l0])
     | succ k2 =>
      have H := HA.out
      clear HA
      simp only [zA.l0] at H
      by_cases c8 : x5_2 < a0
      ·rw [if_pos c8] at H
       have c8b0 : decide (x5_2 < a0) = true := decide_eq_true c8
       clear c8
       by_cases c9 : a0 = 0
       ·rw [if_pos c9] at H
        exact absurd H (by simp)
       ·rw [if_neg c9] at H
        have c9b0 : (a0 == 0) = false := beq_eq_false_iff_ne.mpr c9
        have c9b1 : (a0 != 0) = true := bne_iff_ne.mpr c9
        by_cases c10 : (Int.tmod (wrap64 (a1 * x5_2)) a0) = 1
        ·rw [if_pos c10] at H
         have c10b0 : ((Int.tmod (wrap64 (a1 * x5_2)) a0) == 1) = true := beq_iff_eq.mpr c10
         have c10b1 : ((Int.tmod (wrap64 (a1 * x5_2)) a0) != 1) = false := bne_eq_false_iff_eq.mpr c10
         clear c10
         obtain rfl := Option.some.inj H
         go_wp2
         go_ret
         exact ⟨sqD, by repeat (first | exact zw.refl _ | apply zw.step)⟩
        ·rw [if_neg c10] at H
         have c10b0 : ((Int.tmod (wrap64 (a1 * x5_2)) a0) == 1) = false := beq_eq_false_iff_ne.mpr c10
         have c10b1 : ((Int.tmod (wrap64 (a1 * x5_2)) a0) != 1) = true := bne_iff_ne.mpr c10
         have H' := Aside0.mk H
         clear H
         go_wp2
         go_roundg k2
         case measure => have := HJ2.out; have := HK2.out; omega
         case rel => exact ⟨(wrap64 (x5_2 + 1)), (sqD), H', ⟨by have := HJ2.out; have := HK2.out; omega⟩, by repeat (first | exact zw.refl _ | apply zw.step)⟩
      ·rw [if_neg c8] at H
       have c8b0 : decide (x5_2 < a0) = false := decide_eq_false c8
       clear c8
       obtain rfl := Option.some.inj H
       go_wp2
       go_ret
       exact ⟨sqD, by repeat (first | exact zw.refl _ | apply zw.step)⟩

mutual
def zl.l0 : Nat → Int → Int → Int → Int → Int → Int → Int → List Int → Option (List Int)
 | 0, _, _, _, _, _, _, _, _ => none
 | k + 1, x1, x2, x6, x7, x148000, x148001, x148002, x148003 => if x7 < x148002 then (if 0 ≤ (wrap64 ((wrap64 (x1 * x148002)) + x7)) then (if (wrap64 ((wrap64 (x1 * x148002)) + x7)) < (x148003.length : Int) then (if x148000 = 0 then (none) else (zl.l0 k x1 x2 x6 (wrap64 (x7 + 1)) x148000 x148001 x148002 (x148003.set ((wrap64 ((wrap64 (x1 * x148002)) + x7)) : Int).toNat (Int.tmod (wrap64 ((rd x148003 (wrap64 ((wrap64 (x1 * x148002)) + x7))) * x6)) x148000)))) else (none)) else (none)) else (zl.l1 k x1 x2 0 x148000 x148001 x148002 x148003)
def zl.l1 : Nat → Int → Int → Int → Int → Int → Int → List Int → Option (List Int)
 | 0, _, _, _, _, _, _, _ => none
 | k + 1, x1, x2, x8, x148000, x148001, x148002, x148003 => if x8 < x148001 then (if 0 ≤ (wrap64 ((wrap64 (x8 * x148002)) + x2)) then (if (wrap64 ((wrap64 (x8 * x148002)) + x2)) < (x148003.length : Int) then (zl.l2 k x1 x2 x8 (rd x148003 (wrap64 ((wrap64 (x8 * x148002)) + x2))) 0 x148000 x148001 x148002 x148003) else (none)) else (none)) else (some x148003)
def zl.l2 : Nat → Int → Int → Int → Int → Int → Int → Int → Int → List Int → Option (List Int)
 | 0, _, _, _, _, _, _, _, _, _ => none
 | k + 1, x1, x2, x8, x9, x10, x148000, x148001, x148002, x148003 => if x10 < x148002 then (if x8 = x1 then (zl.l1 k x1 x2 (wrap64 (x8 + 1)) x148000 x148001 x148002 x148003) else (if 0 ≤ (wrap64 ((wrap64 (x8 * x148002)) + x10)) then (if (wrap64 ((wrap64 (x8 * x148002)) + x10)) < (x148003.length : Int) then (if 0 ≤ (wrap64 ((wrap64 (x1 * x148002)) + x10)) then (if (wrap64 ((wrap64 (x1 * x148002)) + x10)) < (x148003.length : Int) then (if x148000 = 0 then (none) else (zl.l2 k x1 x2 x8 x9 (wrap64 (x10 + 1)) x148000 x148001 x148002 (x148003.set ((wrap64 ((wrap64 (x8 * x148002)) + x10)) : Int).toNat (Int.tmod (wrap64 ((rd x148003 (wrap64 ((wrap64 (x8 * x148002)) + x10))) + (wrap64 ((wrap64 (x148000 - x9)) * (rd x148003 (wrap64 ((wrap64 (x1 * x148002)) + x10))))))) x148000)))) else (none)) else (none)) else (none)) else (none))) else (zl.l1 k x1 x2 (wrap64 (x8 + 1)) x148000 x148001 x148002 x148003)
end
def zl.f (k : Nat) (a0_0 : Int) (a0_1 : Int) (a0_2 : Int) (l0_3 : List Int) (a1 : Int) (a2 : Int) : Option (List Int) := if 0 ≤ (wrap64 ((wrap64 (a1 * a0_2)) + a2)) then (if (wrap64 ((wrap64 (a1 * a0_2)) + a2)) < (l0_3.length : Int) then ((zA.f k a0_0 (rd l0_3 (wrap64 ((wrap64 (a1 * a0_2)) + a2)))).bind fun t149 => (zl.l0 k a1 a2 t149 0 a0_0 a0_1 a0_2 l0_3)) else (none)) else (none)
def zl.T1 : Bool × List (List Nat × List Nat) := (true, [([], []), ([0], [0]), ([], []), ([2], [2]), ([], []), ([], []), ([5], [5]), ([4, 6], [4, 6]), ([], []), ([7, 8], [7, 8]), ([3, 9], [3, 9]), ([10], [10]), ([1, 11], [1, 11]), ([12, 12, 0, 1, 2, 3, 4, 5, 6, 7, 8, 9, 10, 11, 12], [12])])
def zl.B1 : List Nat := [0, 1, 0, 4, 0, 0, 32, 112, 0, 496, 1020, 2044, 4095, 8191]
theorem zl.YL : jQ .any (opsOf Try.f62 1) = zl.T1 := by kernel_rfl
theorem zl.VD : jf zl.T1.2 zl.B1 = true := by kernel_rfl
def zl.T5 : Bool × List (List Nat × List Nat) := (true, [([], []), ([0], [0]), ([], []), ([], []), ([3], [3]), ([2, 4], [2, 4]), ([], []), ([5, 6], [5, 6]), ([], []), ([8], [8]), ([], []), ([], []), ([11], [11]), ([10, 12], [10, 12]), ([], []), ([13, 14], [13, 14]), ([9, 15], [9, 15]), ([16], [16]), ([], []), ([17, 18], [17, 18]), ([], []), ([20], [20]), ([19, 21], [19, 21]), ([1, 7, 0, 1, 2, 3, 4, 5, 6, 7, 8, 9, 10, 11, 12, 13, 14, 15, 16, 17, 18, 19, 20, 21, 22], [1, 7]), ([23, 22, 0, 1, 2, 3, 4, 5, 6, 7, 8, 9, 10, 11, 12, 13, 14, 15, 16, 17, 18, 19, 20, 21, 22], [22, 23])])
def zl.B5 : List Nat := [0, 1, 0, 0, 8, 28, 0, 124, 0, 256, 0, 0, 2048, 7168, 0, 31744, 65280, 130816, 0, 524032, 0, 1048576, 4194048, 8388607, 16777215]
theorem zl.zaa : jQ .any (opsOf Try.f62 5) = zl.T5 := by kernel_rfl
theorem zl.VI : jf zl.T5.2 zl.B5 = true := by kernel_rfl
def zl.T13 : Bool × List (List Nat × List Nat) := (true, [([], []), ([0], [0]), ([], []), ([], []), ([3], [3]), ([2, 4], [2, 4]), ([], []), ([5, 6], [5, 6]), ([], []), ([8], [8]), ([], []), ([], []), ([11], [11]), ([10, 12], [10, 12]), ([], []), ([13, 14], [13, 14]), ([9, 15], [9, 15]), ([16], [16]), ([], []), ([18], [18]), ([], []), ([19, 20], [19, 20]), ([], []), ([22], [22]), ([], []), ([], []), ([25], [25]), ([24, 26], [24, 26]), ([], []), ([27, 28], [27, 28]), ([23, 29], [23, 29]), ([30], [30]), ([21, 31], [21, 31]), ([17, 32], [17, 32]), ([], []), ([34], [34]), ([33, 35], [33, 35]), ([1, 7, 0, 1, 2, 3, 4, 5, 6, 7, 8, 9, 10, 11, 12, 13, 14, 15, 16, 17, 18, 19, 20, 21, 22, 23, 24, 25, 26, 27, 28, 29, 30, 31, 32, 33, 34, 35, 36], [1, 7]), ([37, 36, 0, 1, 2, 3, 4, 5, 6, 7, 8, 9, 10, 11, 12, 13, 14, 15, 16, 17, 18, 19, 20, 21, 22, 23, 24, 25, 26, 27, 28, 29, 30, 31, 32, 33, 34, 35, 36], [36, 37])])
def zl.B13 : List Nat := [0, 1, 0, 0, 8, 28, 0, 124, 0, 256, 0, 0, 2048, 7168, 0, 31744, 65280, 130816, 0, 262144, 0, 1835008, 0, 4194304, 0, 0, 33554432, 117440512, 0, 520093696, 1069547520, 2143289344, 4294705152, 8589934336, 0, 17179869184, 68719476480, 137438953471, 274877906943]
theorem zl.zac : jQ .any (opsOf Try.f62 13) = zl.T13 := by kernel_rfl
theorem zl.YT : jf zl.T13.2 zl.B13 = true := by kernel_rfl
theorem zl.calls (k : Nat) (a0_0 : Int) (a0_1 : Int) (a0_2 : Int) (P0_3_ : Nat → Prop) (u9000_ : Value) (l0_3 : List Int) (a1 : Int) (a2 : Int) (r : List Int) (w0 w : World) (hB : Below w0.heap.size w0 w) (ho0_3 : Kd.R (Kd.int .i64) 3 w w0.heap.size P0_3_ u9000_ l0_3) (h : zl.f k a0_0 a0_1 a0_2 l0_3 a1 a2 = some r) :
  Calls Try.prog 62 #[.agg #[.int .i64 a0_0, .int .i64 a0_1, .int .i64 a0_2, u9000_], .int .i64 a1, .int .i64 a2] w fun e w' => e = .returned (.tuple #[]) ∧ Kd.R (Kd.int .i64) 3 w' w0.heap.size (fun k_ => (P0_3_ k_ ∨ w.heap.size ≤ k_)) u9000_ r ∧ Below w0.heap.size w0 w' ∧ Kept w w' (fun k_ => P0_3_ k_) := by
 have hu27 := Try.underlying27
 have HO0_3 := Aside0.mk (show Kd.R (Kd.int .i64) 3 w w0.heap.size (fun k_ => (P0_3_ k_ ∨ w.heap.size ≤ k_)) u9000_ l0_3 from Kd.zo ho0_3 (fun k_ hk => (.inl hk)))
 have HK := Aside0.mk (Kept.refl w (fun k_ => P0_3_ k_))
 have HW0 := Aside0.mk hB.size
 have HB := Aside0.mk hB
 clear hB
 have H : (if 0 ≤ (wrap64 ((wrap64 (a1 * a0_2)) + a2)) then (if (wrap64 ((wrap64 (a1 * a0_2)) + a2)) < (l0_3.length : Int) then ((zA.f k a0_0 (rd l0_3 (wrap64 ((wrap64 (a1 * a0_2)) + a2)))).bind fun t149 => (zl.l0 k a1 a2 t149 0 a0_0 a0_1 a0_2 l0_3)) else (none)) else (none)) = some r := h
 clear h
 obtain ⟨ji4, hji4⟩ : ∃ j_ : Int, (wrap64 ((wrap64 (a1 * a0_2)) + a2)) = j_ := ⟨_, rfl⟩
 replace H : (if 0 ≤ (ji4) then (if (ji4) < (l0_3.length : Int) then ((zA.f k a0_0 (rd l0_3 (ji4))).bind fun t149 => (zl.l0 k a1 a2 t149 0 a0_0 a0_1 a0_2 l0_3)) else (none)) else (none)) = some r := by first | (rw [hji4] at H; exact H) | (simp only [hji4] at H ⊢; exact H)
 have hji4w : (IntKind.i64.wrap ((wrap64 (a1 * a0_2)) + a2)) = ji4 := (zf _).trans hji4
 by_cases c5 : 0 ≤ (ji4)
 ·rw [if_pos c5] at H
  have c5b0 : decide (0 ≤ (ji4)) = true := decide_eq_true c5
  clear c5
  by_cases c6 : (ji4) < (l0_3.length : Int)
  ·rw [if_pos c6] at H
   have c6b0 : decide ((ji4) < (l0_3.length : Int)) = true := decide_eq_true c6
   clear c6
   replace H := Option.bind_eq_some_iff.mp H
   obtain ⟨t149, A70, H⟩ := H
   replace H : (zl.l0 k a1 a2 t149 0 a0_0 a0_1 a0_2 l0_3) = some r := H
   have A7 := Aside0.mk A70
   clear A70
   have H' := Aside0.mk H
   clear H
   obtain ⟨Ao8, co8, eo8⟩ := Kd.zU HO0_3.out
   subst eo8
   go_enter Try.func62, Try.ntmps62
   try go_wp2_with (first | ((with_reducible refine zC (N := 3) rfl ?_); refine zD ?hg (N := 3) ?hd (cs := #[.int .i64 a0_0, .int .i64 a0_1, .int .i64 a0_2, .slice Ao8 l0_3.length co8]) (t := 27) ?hr ?_; (case hd => rfl); (case hg => rfl); (case hr => exact sqG); intro gb147 hg w9 hbox hb; have n0_ := Aside0.mk (Kd.zG (sqR HO0_3.out) hb); have n1_ := Aside0.mk (Kept.below (S := (fun k_ => P0_3_ k_)) (by repeat (first | (with_reducible first | exact HK.out | apply Kept.alloc | apply Kept.drewN | apply Kept.drew) | exact HK.out)) hb); have n2_ := Aside0.mk (zg sqB hb); have n3_ := Aside0.mk (hbox); have n4_ := Aside0.mk ((by rw [hg]; exact (by first | exact HK.out.1 | exact (show Kept w _ (fun k_ => P0_3_ k_) from by repeat (first | (with_reducible first | exact HK.out | apply Kept.alloc | apply Kept.drewN | apply Kept.drew) | exact HK.out)).1) : w.heap.size ≤ gb147)); have n5_ := Aside0.mk ((sqS hg : w0.heap.size ≤ gb147)); clear HO0_3; clear HK; clear HB; have HO0_3 := n0_; have HK := n1_; have HB := n2_; have BK147 := n3_; have GW147 := n4_; have GE147 := n5_; clear n0_ n1_ n2_ n3_ n4_ n5_; clear hb hbox hg))
   have n0_ := Aside0.mk (Kd.qM HO0_3.out)
   have n1_ := Aside0.mk (qd BK147.out)
   have n2_ := Aside0.mk (Kept.drew HK.out)
   have n3_ := Aside0.mk (zT HB.out)
   clear HO0_3 BK147 HK HB; have HO0_3 := n0_; have BK147 := n1_; have HK := n2_; have HB := n3_; clear n0_ n1_ n2_ n3_
   have p148 : 0 ≤ ((ji4) : Int) := of_decide_eq_true sqA
   have q148 : (ji4) < (l0_3.length : Int) := of_decide_eq_true sqA
   obtain ⟨ad148, e148, hx148_0⟩ := Kd.qh (Kd.zu HO0_3.out).2.2 (ji4) p148 q148
   cases e148
   replace p148 := eq_true p148
   replace q148 := eq_true q148
   refine jU (n := 14) (S := fun w' => w'.cell? ⟨gb147, 0, none⟩ = some (.int .i64 a0_0) ∧ w'.cell? ⟨gb147, 1, none⟩ = some (.int .i64 a0_1) ∧ w'.cell? ⟨gb147, 2, none⟩ = some (.int .i64 a0_2) ∧ w'.cell? ⟨gb147, 3, none⟩ = some (.slice (some ad148) l0_3.length co8) ∧ w'.cell? (ad148.add ((ji4)).toNat) = some (.int .i64 (rd l0_3 (ji4)))) (ds := []) #[false, false, false, false, false, false, false, false, false, false, false, false, false, false] (by kernel_rfl) rfl rfl ⟨(zb BK147.out 0).trans rfl, (zb BK147.out 1).trans rfl, (zb BK147.out 2).trans rfl, (zb BK147.out 3).trans rfl, hx148_0⟩ (fun hHeld => ?_); refine qZ zl.YL zl.VD (fun HT_ HW_ => ?_)
   generalize w9.drew = w10 at HO0_3 BK147 HK HB hx148_0 hHeld ⊢
   refine zx (i := 0) (N := some 11) (v := ?_) (a' := ?_) #[true, false, false, false, false, false, false, false, false, false, false, false, false, false] rfl rfl (zn HT_.out (by kernel_rfl)) (fun _ _ _ h => h) (Or.inl ⟨by rfl, ?_⟩) ?_ ?_
   rotate_left
   ·intro w'; go_simp; with_reducible rfl
   rotate_left
   ·simp only [Act.put, List.setIfInBounds_toArray, List.set_cons_zero, List.set_cons_succ, zf, zh]; rfl
   refine zx (i := 2) (N := some 13) (v := ?_) (a' := ?_) #[true, false, true, false, false, false, false, false, false, false, false, false, false, false] rfl rfl (zn HT_.out (by kernel_rfl)) (fun _ _ _ h => h) (Or.inl ⟨by rfl, ?_⟩) ?_ ?_
   rotate_left
   ·intro w'; go_simp; with_reducible rfl
   rotate_left
   ·simp only [Act.put, List.setIfInBounds_toArray, List.set_cons_zero, List.set_cons_succ, zf, zh]; rfl
   refine zx (i := 4) (N := some 15) (v := ?_) (a' := ?_) #[true, false, true, false, true, false, false, false, false, false, false, false, false, false] rfl rfl (zn HT_.out (by kernel_rfl)) (fun _ _ _ h => h) (Or.inl ⟨by rfl, ?_⟩) ?_ ?_
   rotate_left
   ·intro w'; go_simp; with_reducible rfl
   rotate_left
   ·simp only [Act.put, List.setIfInBounds_toArray, List.set_cons_zero, List.set_cons_succ, zf, zh]; rfl
   refine zx (i := 5) (N := some 16) (v := ?_) (a' := ?_) #[true, false, true, false, true, true, false, false, false, false, false, false, false, false] rfl rfl (zn HT_.out (by kernel_rfl)) (fun _ _ _ h => h) (Or.inl ⟨by rfl, ?_⟩) ?_ ?_
   rotate_left
   ·intro w'; go_simp; with_reducible rfl
   rotate_left
   ·simp only [Act.put, List.setIfInBounds_toArray, List.set_cons_zero, List.set_cons_succ, zf, zh]; rfl
   refine zx (i := 8) (N := some 19) (v := ?_) (a' := ?_) #[true, false, true, false, true, true, false, false, true, false, false, false, false, false] rfl rfl (zn HT_.out (by kernel_rfl)) (fun _ _ _ h => h) (Or.inl ⟨by rfl, ?_⟩) ?_ ?_
   rotate_left
   ·intro w'; go_simp; with_reducible rfl
   rotate_left
   ·simp only [Act.put, List.setIfInBounds_toArray, List.set_cons_zero, List.set_cons_succ, zf, zh]; rfl
   refine qe (i := 1) (N := some 12) (v := ?_) (a' := ?_) #[true, true, true, false, true, true, false, false, true, false, false, false, false, false] rfl rfl (zM HT_.out HW_.out (by kernel_rfl)) (fun _ _ _ h => h) (Or.inl ⟨by rfl, ?_⟩) hHeld ?_ ?_
   rotate_left
   ·rintro w' ⟨s0, s1, s2, s3, s4⟩; go_simp; with_reducible rfl
   rotate_left
   ·simp only [Act.put, List.setIfInBounds_toArray, List.set_cons_zero, List.set_cons_succ, zf, zh]; rfl
   refine qe (i := 3) (N := some 14) (v := ?_) (a' := ?_) #[true, true, true, true, true, true, false, false, true, false, false, false, false, false] rfl rfl (zM HT_.out HW_.out (by kernel_rfl)) (fun _ _ _ h => h) (Or.inl ⟨by rfl, ?_⟩) hHeld ?_ ?_
   rotate_left
   ·rintro w' ⟨s0, s1, s2, s3, s4⟩; go_simp; with_reducible rfl
   rotate_left
   ·simp only [Act.put, List.setIfInBounds_toArray, List.set_cons_zero, List.set_cons_succ, zf, zh]; rfl
   refine qe (i := 6) (N := some 17) (v := ?_) (a' := ?_) #[true, true, true, true, true, true, true, false, true, false, false, false, false, false] rfl rfl (zM HT_.out HW_.out (by kernel_rfl)) (fun _ _ _ h => h) (Or.inl ⟨by rfl, ?_⟩) hHeld ?_ ?_
   rotate_left
   ·rintro w' ⟨s0, s1, s2, s3, s4⟩; go_simp; with_reducible rfl
   rotate_left
   ·simp only [Act.put, List.setIfInBounds_toArray, List.set_cons_zero, List.set_cons_succ, zf, zh]; rfl
   refine zx (i := 7) (N := some 18) (v := ?_) (a' := ?_) #[true, true, true, true, true, true, true, true, true, false, false, false, false, false] rfl rfl (zn HT_.out (by kernel_rfl)) (fun _ _ _ h => h) (Or.inl ⟨by rfl, ?_⟩) ?_ ?_
   rotate_left
   ·intro w'; go_simp; with_reducible rfl
   rotate_left
   ·simp only [Act.put, List.setIfInBounds_toArray, List.set_cons_zero, List.set_cons_succ, zf, zh]; rfl
   refine zx (i := 9) (N := some 20) (v := ?_) (a' := ?_) #[true, true, true, true, true, true, true, true, true, true, false, false, false, false] rfl rfl (zn HT_.out (by kernel_rfl)) (fun _ _ _ h => h) (Or.inl ⟨by rfl, ?_⟩) ?_ ?_
   rotate_left
   ·intro w'; go_simp; with_reducible rfl
   rotate_left
   ·simp only [Act.put, List.setIfInBounds_toArray, List.set_cons_zero, List.set_cons_succ, zf, zh]; rfl
   refine zx (i := 10) (N := some 21) (v := ?_) (a' := ?_) #[true, true, true, true, true, true, true, true, true, true, true, false, false, false] rfl rfl (zn HT_.out (by kernel_rfl)) (fun _ _ _ h => h) (Or.inl ⟨by rfl, ?_⟩) ?_ ?_
   rotate_left
   ·intro w'; go_simp; with_reducible rfl
   rotate_left
   ·simp only [Act.put, List.setIfInBounds_toArray, List.set_cons_zero, List.set_cons_succ, zf, zh]; rfl
   refine qe (i := 11) (N := some 22) (v := ?_) (a' := ?_) #[true, true, true, true, true, true, true, true, true, true, true, true, false, false] rfl rfl (zM HT_.out HW_.out (by kernel_rfl)) (fun _ _ _ h => h) (Or.inl ⟨by rfl, ?_⟩) hHeld ?_ ?_
   rotate_left
   ·rintro w' ⟨s0, s1, s2, s3, s4⟩; go_simp; with_reducible rfl
   rotate_left
   ·simp only [Act.put, List.setIfInBounds_toArray, List.set_cons_zero, List.set_cons_succ, zf, zh]; rfl
   refine Zq (i := 12) (N := some 23) #[true, true, true, true, true, true, true, true, true, true, true, true, true, false] rfl rfl (jr HT_.out (by kernel_rfl)) (by decide) (fun K hK => ?_)
   refine yX Try.func73 (by kernel_rfl) rfl #[.int .i64 a0_0, .int .i64 (rd l0_3 (ji4))] (by rfl) rfl rfl (by (try simp only [List.map_toArray, List.map_cons, List.map_nil]); first | done | (simp only [hji4]; rfl) | rfl | (simp only [List.length_drop, List.length_take]; rfl)) ?_
   with_reducible refine (zA.calls k a0_0 (rd l0_3 (ji4)) t149 _ A7.out).mono ?_
   rintro e w' ⟨rfl, ⟨nd, rfl⟩⟩
   refine ⟨_, rfl, ?_⟩
   refine hK.out _ _ ⟨(zb BK147.out 0).trans rfl, (zb BK147.out 1).trans rfl, (zb BK147.out 2).trans rfl, (zb BK147.out 3).trans rfl, hHeld.2.2.2.2⟩ (fun hHeld => ?_)
   clear hK K
   refine yi (a' := ?_) ?_ ?_
   rotate_left
   ·show Act.put _ (some 23) _ = _; simp only [Act.put, List.setIfInBounds_toArray, List.set_cons_zero, List.set_cons_succ, zf, zh]; rfl
   refine zx (i := 13) (N := some 6) (v := ?_) (a' := ?_) #[true, true, true, true, true, true, true, true, true, true, true, true, true, true] rfl rfl (zn HT_.out (by kernel_rfl)) (fun _ _ _ h => h) (Or.inl ⟨by rfl, ?_⟩) ?_ ?_
   rotate_left
   ·intro w'; go_simp; with_reducible rfl
   rotate_left
   ·simp only [Act.put, List.setIfInBounds_toArray, List.set_cons_zero, List.set_cons_succ, zf, zh]; rfl
   refine vI (jO HT_.out (by kernel_rfl)) ?_
   try go_wp2
   go_loopg [7] k (fun kq v7 w' => ∃ (x7_1 : Int) (x148003_1 : List Int), v7 = .int .i64 x7_1 ∧ Aside0 (zl.l0 kq a1 a2 t149 x7_1 a0_0 a0_1 a0_2 x148003_1 = some r) ∧ Aside0 (kq ≤ k) ∧ Aside0 (Kd.R (Kd.int .i64) 3 w' w0.heap.size (fun k_ => (P0_3_ k_ ∨ w.heap.size ≤ k_)) (.slice (some ad148) l0_3.length co8) x148003_1) ∧ Aside0 (w'.heap[gb147]? = some (.cells #[.int .i64 a0_0, .int .i64 a0_1, .int .i64 a0_2, (.slice (some ad148) l0_3.length co8)] 27 (0, 0))) ∧ Aside0 (Kept w w' (fun k_ => P0_3_ k_)) ∧ Aside0 (Below w0.heap.size w0 w'))
   case atStart => exact ⟨(0), (l0_3), (sqD), H', ⟨Nat.le_refl _⟩, ⟨sqR HO0_3.out⟩, ⟨sqK BK147.out⟩, ⟨by repeat (first | (with_reducible first | exact HK.out | apply Kept.alloc | apply Kept.drewN | apply Kept.drew | refine Kept.setCell ?_ (.inr GW147.out) _) | exact HK.out)⟩, ⟨sqB⟩⟩
   case round =>
    clear H'
    try clear p1
    try clear q1
    try clear hx1
    try clear p2
    try clear c5
    try clear c5b0
    try clear c6
    try clear c6b0
    try clear p6
    try clear c7
    try clear hx148_0
    try clear p148
    try clear q148
    obtain ⟨x7_1, x148003_1, rfl, HA, HK1, HO_148003, BK147, HK, HB⟩ := hrel
    have hl148003_1 := (Kd.zu HO_148003.out).1
    rw [hl148003_1] at HO_148003
    (try simp only [hl148003_1])
    (try simp only [hl148003_1] at BK147)
    cases gk with
    | zero => exact absurd HA.out (by simp [zl.l0])
    | succ k1 =>
     have H := HA.out
     clear HA
     simp only [zl.l0] at H
     by_cases c11 : x7_1 < a0_2
     ·rw [if_pos c11] at H
      have c11b0 : decide (x7_1 < a0_2) = true := decide_eq_true c11
      clear c11
      obtain ⟨ji12, hji12⟩ : ∃ j_ : Int, (wrap64 ((wrap64 (a1 * a0_2)) + x7_1)) = j_ := ⟨_, rfl⟩
      replace H : (if 0 ≤ (ji12) then (if (ji12) < (x148003_1.length : Int) then (if a0_0 = 0 then (none) else (zl.l0 k1 a1 a2 t149 (wrap64 (x7_1 + 1)) a0_0 a0_1 a0_2 (x148003_1.set ((ji12) : Int).toNat (Int.tmod (wrap64 ((rd x148003_1 (ji12)) * t149)) a0_0)))) else (none)) else (none)) = some r := by first | (rw [hji12] at H; exact H) | (simp only [hji12] at H ⊢; exact H)
      have hji12w : (IntKind.i64.wrap ((wrap64 (a1 * a0_2)) + x7_1)) = ji12 := (zf _).trans hji12
      by_cases c13 : 0 ≤ (ji12)
      ·rw [if_pos c13] at H
       have c13b0 : decide (0 ≤ (ji12)) = true := decide_eq_true c13
       clear c13
       by_cases c14 : (ji12) < (x148003_1.length : Int)
       ·rw [if_pos c14] at H
        have c14b0 : decide ((ji12) < (x148003_1.length : Int)) = true := decide_eq_true c14
        (try simp only [hl148003_1] at c14b0)
        clear c14
        by_cases c15 : a0_0 = 0
        ·rw [if_pos c15] at H
         exact absurd H (by simp)
        ·rw [if_neg c15] at H
         have c15b0 : (a0_0 == 0) = false := beq_eq_false_iff_ne.mpr c15
         have c15b1 : (a0_0 != 0) = true := bne_iff_ne.mpr c15
         obtain ⟨y151, hy151⟩ : ∃ y_ : List Int, y_ = (x148003_1.set ((ji12) : Int).toNat (Int.tmod (wrap64 ((rd x148003_1 (ji12)) * t149)) a0_0)) := ⟨_, rfl⟩
         replace H : (zl.l0 k1 a1 a2 t149 (wrap64 (x7_1 + 1)) a0_0 a0_1 a0_2 y151) = some r := by first | (rw [hy151]; with_reducible exact H) | (have H2_ := (Option.bind_some _ _).symm.trans H; rw [hy151]; with_reducible exact H2_) | (have H2_ := (Option.bind_some _ _).symm.trans H; with_reducible exact H2_) | with_reducible exact H | (rw [hy151]; exact H) | exact H
         have Ny151 := Aside0.mk hy151
         clear hy151
         have H' := Aside0.mk H
         clear H
         have hcz17_0 : wr.cell? ⟨gb147, 0, none⟩ = some (.int .i64 a0_0) := (zb BK147.out 0).trans rfl
         have hcz17_1 : wr.cell? ⟨gb147, 1, none⟩ = some (.int .i64 a0_1) := (zb BK147.out 1).trans rfl
         have hcz17_2 : wr.cell? ⟨gb147, 2, none⟩ = some (.int .i64 a0_2) := (zb BK147.out 2).trans rfl
         have hcz17_3 : wr.cell? ⟨gb147, 3, none⟩ = some (.slice (some ad148) x148003_1.length co8) := (zb BK147.out 3).trans rfl
         have hfz17_0 := za BK147.out 0; have hfz17_1 := za BK147.out 1; have hfz17_2 := za BK147.out 2; have hfz17_3 := za BK147.out 3
         try go_wp2
         have n0_ := Aside0.mk (Kd.qM HO_148003.out)
         have n1_ := Aside0.mk (qd BK147.out)
         have n2_ := Aside0.mk (Kept.drew HK.out)
         have n3_ := Aside0.mk (zT HB.out)
         clear HO_148003 BK147 HK HB; have HO_148003 := n0_; have BK147 := n1_; have HK := n2_; have HB := n3_; clear n0_ n1_ n2_ n3_
         have p150 : 0 ≤ ((ji12) : Int) := of_decide_eq_true sqA
         have q150 : (ji12) < (x148003_1.length : Int) := of_decide_eq_true sqA
         obtain ⟨ad150, e150, hx150_0⟩ := Kd.qh (Kd.zu HO_148003.out).2.2 (ji12) p150 q150
         obtain rfl : ad148 = ad150 := (by injection e150)
         replace p150 := eq_true p150
         replace q150 := eq_true q150
         have p16 : 0 ≤ ((ji12) : Int) := of_decide_eq_true sqA
         have q16 : ((ji12) : Int) < ((x148003_1.length : Int) : Int) := of_decide_eq_true sqA
         obtain ⟨go16, co16, eo16, gb16, gl16, cl16, HG16⟩ := Kd.vq HO_148003.out (by omega)
         (first | cases eo16 | (injection eo16 with ea_ en_ ec_; (first | subst ea_ | (injection ea_ with ea_; subst ea_)); subst ec_; clear en_))
         (try simp only [add_plain] at *)
         have GB16 := Aside0.mk gb16
         have GG16 := Aside0.mk HG16
         clear gb16 gl16 HG16
         have HMgo16 := Aside0.mk (show (P0_3_ go16 ∨ w.heap.size ≤ go16) from (HO_148003.out.1 _ rfl))
         (first | simp only [add_plain] at hx148_0 | skip)
         (first | simp only [add_plain] at hx150_0 | skip)
         obtain ⟨hx16_0, hf16_0⟩ := Kd.qX 0 HO_148003.out ((ji12) : Int) p16 q16
         replace p16 := eq_true p16
         replace q16 := eq_true q16
         have HP19 := Kd.Zr HO_148003.out ((ji12) : Int) (Int.tmod (wrap64 ((rd x148003_1 (ji12)) * t149)) a0_0)
         rw [← Ny151.out] at HP19
         have HQ19 := Aside0.mk HP19
         clear HP19
         refine jU (n := 25) (S := fun w' => w'.cell? ⟨gb147, 0, none⟩ = some (.int .i64 a0_0) ∧ w'.cell? ⟨gb147, 1, none⟩ = some (.int .i64 a0_1) ∧ w'.cell? ⟨gb147, 2, none⟩ = some (.int .i64 a0_2) ∧ w'.cell? ⟨gb147, 3, none⟩ = some (.slice (some ⟨go16, 0, none⟩) x148003_1.length co8) ∧ w'.cell? ⟨go16, ((ji12)).toNat, none⟩ = some (.int .i64 (rd x148003_1 (ji12)))) (ds := [24]) #[false, false, false, false, false, false, false, false, false, false, false, false, false, false, false, false, false, false, false, false, false, false, false, false, false] (by kernel_rfl) rfl rfl ⟨(zb BK147.out 0).trans rfl, (zb BK147.out 1).trans rfl, (zb BK147.out 2).trans rfl, (zb BK147.out 3).trans rfl, hx150_0⟩ (fun hHeld => ?_); refine qZ zl.zaa zl.VI (fun HT_ HW_ => ?_)
         generalize wr.drew = w18 at HO_148003 BK147 HK HB GG16 HQ19 hf16_0 hx150_0 hx16_0 hHeld ⊢
         refine zx (i := 0) (N := some 30) (v := ?_) (a' := ?_) #[true, false, false, false, false, false, false, false, false, false, false, false, false, false, false, false, false, false, false, false, false, false, false, false, false] rfl rfl (zn HT_.out (by kernel_rfl)) (fun _ _ _ h => h) (Or.inl ⟨by rfl, ?_⟩) ?_ ?_
         rotate_left
         ·intro w'; go_simp; with_reducible rfl
         rotate_left
         ·simp only [Act.put, List.setIfInBounds_toArray, List.set_cons_zero, List.set_cons_succ, zf, zh]; rfl
         refine zx (i := 2) (N := some 32) (v := ?_) (a' := ?_) #[true, false, true, false, false, false, false, false, false, false, false, false, false, false, false, false, false, false, false, false, false, false, false, false, false] rfl rfl (zn HT_.out (by kernel_rfl)) (fun _ _ _ h => h) (Or.inl ⟨by rfl, ?_⟩) ?_ ?_
         rotate_left
         ·intro w'; go_simp; with_reducible rfl
         rotate_left
         ·simp only [Act.put, List.setIfInBounds_toArray, List.set_cons_zero, List.set_cons_succ, zf, zh]; rfl
         refine zx (i := 3) (N := some 33) (v := ?_) (a' := ?_) #[true, false, true, true, false, false, false, false, false, false, false, false, false, false, false, false, false, false, false, false, false, false, false, false, false] rfl rfl (zn HT_.out (by kernel_rfl)) (fun _ _ _ h => h) (Or.inl ⟨by rfl, ?_⟩) ?_ ?_
         rotate_left
         ·intro w'; go_simp; with_reducible rfl
         rotate_left
         ·simp only [Act.put, List.setIfInBounds_toArray, List.set_cons_zero, List.set_cons_succ, zf, zh]; rfl
         refine zx (i := 6) (N := some 36) (v := ?_) (a' := ?_) #[true, false, true, true, false, false, true, false, false, false, false, false, false, false, false, false, false, false, false, false, false, false, false, false, false] rfl rfl (zn HT_.out (by kernel_rfl)) (fun _ _ _ h => h) (Or.inl ⟨by rfl, ?_⟩) ?_ ?_
         rotate_left
         ·intro w'; go_simp; with_reducible rfl
         rotate_left
         ·simp only [Act.put, List.setIfInBounds_toArray, List.set_cons_zero, List.set_cons_succ, zf, zh]; rfl
         refine zx (i := 8) (N := some 38) (v := ?_) (a' := ?_) #[true, false, true, true, false, false, true, false, true, false, false, false, false, false, false, false, false, false, false, false, false, false, false, false, false] rfl rfl (zn HT_.out (by kernel_rfl)) (fun _ _ _ h => h) (Or.inl ⟨by rfl, ?_⟩) ?_ ?_
         rotate_left
         ·intro w'; go_simp; with_reducible rfl
         rotate_left
         ·simp only [Act.put, List.setIfInBounds_toArray, List.set_cons_zero, List.set_cons_succ, zf, zh]; rfl
         refine zx (i := 10) (N := some 40) (v := ?_) (a' := ?_) #[true, false, true, true, false, false, true, false, true, false, true, false, false, false, false, false, false, false, false, false, false, false, false, false, false] rfl rfl (zn HT_.out (by kernel_rfl)) (fun _ _ _ h => h) (Or.inl ⟨by rfl, ?_⟩) ?_ ?_
         rotate_left
         ·intro w'; go_simp; with_reducible rfl
         rotate_left
         ·simp only [Act.put, List.setIfInBounds_toArray, List.set_cons_zero, List.set_cons_succ, zf, zh]; rfl
         refine zx (i := 11) (N := some 41) (v := ?_) (a' := ?_) #[true, false, true, true, false, false, true, false, true, false, true, true, false, false, false, false, false, false, false, false, false, false, false, false, false] rfl rfl (zn HT_.out (by kernel_rfl)) (fun _ _ _ h => h) (Or.inl ⟨by rfl, ?_⟩) ?_ ?_
         rotate_left
         ·intro w'; go_simp; with_reducible rfl
         rotate_left
         ·simp only [Act.put, List.setIfInBounds_toArray, List.set_cons_zero, List.set_cons_succ, zf, zh]; rfl
         refine zx (i := 14) (N := some 44) (v := ?_) (a' := ?_) #[true, false, true, true, false, false, true, false, true, false, true, true, false, false, true, false, false, false, false, false, false, false, false, false, false] rfl rfl (zn HT_.out (by kernel_rfl)) (fun _ _ _ h => h) (Or.inl ⟨by rfl, ?_⟩) ?_ ?_
         rotate_left
         ·intro w'; go_simp; with_reducible rfl
         rotate_left
         ·simp only [Act.put, List.setIfInBounds_toArray, List.set_cons_zero, List.set_cons_succ, zf, zh]; rfl
         refine zx (i := 18) (N := some 48) (v := ?_) (a' := ?_) #[true, false, true, true, false, false, true, false, true, false, true, true, false, false, true, false, false, false, true, false, false, false, false, false, false] rfl rfl (zn HT_.out (by kernel_rfl)) (fun _ _ _ h => h) (Or.inl ⟨by rfl, ?_⟩) ?_ ?_
         rotate_left
         ·intro w'; go_simp; with_reducible rfl
         rotate_left
         ·simp only [Act.put, List.setIfInBounds_toArray, List.set_cons_zero, List.set_cons_succ, zf, zh]; rfl
         refine zx (i := 20) (N := some 50) (v := ?_) (a' := ?_) #[true, false, true, true, false, false, true, false, true, false, true, true, false, false, true, false, false, false, true, false, true, false, false, false, false] rfl rfl (zn HT_.out (by kernel_rfl)) (fun _ _ _ h => h) (Or.inl ⟨by rfl, ?_⟩) ?_ ?_
         rotate_left
         ·intro w'; go_simp; with_reducible rfl
         rotate_left
         ·simp only [Act.put, List.setIfInBounds_toArray, List.set_cons_zero, List.set_cons_succ, zf, zh]; rfl
         refine qe (i := 1) (N := some 31) (v := ?_) (a' := ?_) #[true, true, true, true, false, false, true, false, true, false, true, true, false, false, true, false, false, false, true, false, true, false, false, false, false] rfl rfl (zM HT_.out HW_.out (by kernel_rfl)) (fun _ _ _ h => h) (Or.inl ⟨by rfl, ?_⟩) hHeld ?_ ?_
         rotate_left
         ·rintro w' ⟨s0, s1, s2, s3, s4⟩; go_simp; with_reducible rfl
         rotate_left
         ·simp only [Act.put, List.setIfInBounds_toArray, List.set_cons_zero, List.set_cons_succ, zf, zh]; rfl
         refine qe (i := 4) (N := some 34) (v := ?_) (a' := ?_) #[true, true, true, true, true, false, true, false, true, false, true, true, false, false, true, false, false, false, true, false, true, false, false, false, false] rfl rfl (zM HT_.out HW_.out (by kernel_rfl)) (fun _ _ _ h => h) (Or.inl ⟨by rfl, ?_⟩) hHeld ?_ ?_
         rotate_left
         ·rintro w' ⟨s0, s1, s2, s3, s4⟩; go_simp; with_reducible rfl
         rotate_left
         ·simp only [Act.put, List.setIfInBounds_toArray, List.set_cons_zero, List.set_cons_succ, zf, zh]; rfl
         refine zx (i := 5) (N := some 35) (v := ?_) (a' := ?_) #[true, true, true, true, true, true, true, false, true, false, true, true, false, false, true, false, false, false, true, false, true, false, false, false, false] rfl rfl (zn HT_.out (by kernel_rfl)) (fun _ _ _ h => h) (Or.inl ⟨by rfl, ?_⟩) ?_ ?_
         rotate_left
         ·intro w'; go_simp; with_reducible rfl
         rotate_left
         ·simp only [Act.put, List.setIfInBounds_toArray, List.set_cons_zero, List.set_cons_succ, zf, zh]; rfl
         refine zx (i := 7) (N := some 37) (v := ?_) (a' := ?_) #[true, true, true, true, true, true, true, true, true, false, true, true, false, false, true, false, false, false, true, false, true, false, false, false, false] rfl rfl (zn HT_.out (by kernel_rfl)) (fun _ _ _ h => h) (Or.inl ⟨by rfl, ?_⟩) ?_ ?_
         rotate_left
         ·intro w'; go_simp; with_reducible rfl
         rotate_left
         ·simp only [Act.put, List.setIfInBounds_toArray, List.set_cons_zero, List.set_cons_succ, zf, zh]; rfl
         refine qe (i := 9) (N := some 39) (v := ?_) (a' := ?_) #[true, true, true, true, true, true, true, true, true, true, true, true, false, false, true, false, false, false, true, false, true, false, false, false, false] rfl rfl (zM HT_.out HW_.out (by kernel_rfl)) (fun _ _ _ h => h) (Or.inl ⟨by rfl, ?_⟩) hHeld ?_ ?_
         rotate_left
         ·rintro w' ⟨s0, s1, s2, s3, s4⟩; go_simp; with_reducible rfl
         rotate_left
         ·simp only [Act.put, List.setIfInBounds_toArray, List.set_cons_zero, List.set_cons_succ, zf, zh]; rfl
         refine qe (i := 12) (N := some 42) (v := ?_) (a' := ?_) #[true, true, true, true, true, true, true, true, true, true, true, true, true, false, true, false, false, false, true, false, true, false, false, false, false] rfl rfl (zM HT_.out HW_.out (by kernel_rfl)) (fun _ _ _ h => h) (Or.inl ⟨by rfl, ?_⟩) hHeld ?_ ?_
         rotate_left
         ·rintro w' ⟨s0, s1, s2, s3, s4⟩; go_simp; with_reducible rfl
         rotate_left
         ·simp only [Act.put, List.setIfInBounds_toArray, List.set_cons_zero, List.set_cons_succ, zf, zh]; rfl
         refine zx (i := 13) (N := some 43) (v := ?_) (a' := ?_) #[true, true, true, true, true, true, true, true, true, true, true, true, true, true, true, false, false, false, true, false, true, false, false, false, false] rfl rfl (zn HT_.out (by kernel_rfl)) (fun _ _ _ h => h) (Or.inl ⟨by rfl, ?_⟩) ?_ ?_
         rotate_left
         ·intro w'; go_simp; with_reducible rfl
         rotate_left
         ·simp only [Act.put, List.setIfInBounds_toArray, List.set_cons_zero, List.set_cons_succ, zf, zh]; rfl
         refine zx (i := 15) (N := some 45) (v := ?_) (a' := ?_) #[true, true, true, true, true, true, true, true, true, true, true, true, true, true, true, true, false, false, true, false, true, false, false, false, false] rfl rfl (zn HT_.out (by kernel_rfl)) (fun _ _ _ h => h) (Or.inl ⟨by rfl, ?_⟩) ?_ ?_
         rotate_left
         ·intro w'; go_simp; with_reducible rfl
         rotate_left
         ·simp only [Act.put, List.setIfInBounds_toArray, List.set_cons_zero, List.set_cons_succ, zf, zh]; rfl
         refine zx (i := 16) (N := some 46) (v := ?_) (a' := ?_) #[true, true, true, true, true, true, true, true, true, true, true, true, true, true, true, true, true, false, true, false, true, false, false, false, false] rfl rfl (zn HT_.out (by kernel_rfl)) (fun _ _ _ h => h) (Or.inl ⟨by rfl, ?_⟩) ?_ ?_
         rotate_left
         ·intro w'; go_simp; with_reducible rfl
         rotate_left
         ·simp only [Act.put, List.setIfInBounds_toArray, List.set_cons_zero, List.set_cons_succ, zf, zh]; rfl
         refine qe (i := 17) (N := some 47) (v := ?_) (a' := ?_) #[true, true, true, true, true, true, true, true, true, true, true, true, true, true, true, true, true, true, true, false, true, false, false, false, false] rfl rfl (zM HT_.out HW_.out (by kernel_rfl)) (fun _ _ _ h => h) (Or.inl ⟨by rfl, ?_⟩) hHeld ?_ ?_
         rotate_left
         ·rintro w' ⟨s0, s1, s2, s3, s4⟩; go_simp; with_reducible rfl
         rotate_left
         ·simp only [Act.put, List.setIfInBounds_toArray, List.set_cons_zero, List.set_cons_succ, zf, zh]; rfl
         refine zx (i := 19) (N := some 49) (v := ?_) (a' := ?_) #[true, true, true, true, true, true, true, true, true, true, true, true, true, true, true, true, true, true, true, true, true, false, false, false, false] rfl rfl (zn HT_.out (by kernel_rfl)) (fun _ _ _ h => h) (Or.inl ⟨by rfl, ?_⟩) ?_ ?_
         rotate_left
         ·intro w'; go_simp; with_reducible rfl
         rotate_left
         ·simp only [Act.put, List.setIfInBounds_toArray, List.set_cons_zero, List.set_cons_succ, zf, zh]; rfl
         refine qe (i := 21) (N := some 51) (v := ?_) (a' := ?_) #[true, true, true, true, true, true, true, true, true, true, true, true, true, true, true, true, true, true, true, true, true, true, false, false, false] rfl rfl (zM HT_.out HW_.out (by kernel_rfl)) (fun _ _ _ h => h) (Or.inl ⟨by rfl, ?_⟩) hHeld ?_ ?_
         rotate_left
         ·rintro w' ⟨s0, s1, s2, s3, s4⟩; go_simp; with_reducible rfl
         rotate_left
         ·simp only [Act.put, List.setIfInBounds_toArray, List.set_cons_zero, List.set_cons_succ, zf, zh]; rfl
         refine zx (i := 22) (N := some 52) (v := ?_) (a' := ?_) #[true, true, true, true, true, true, true, true, true, true, true, true, true, true, true, true, true, true, true, true, true, true, true, false, false] rfl rfl (zn HT_.out (by kernel_rfl)) (fun _ _ _ h => h) (Or.inl ⟨by rfl, ?_⟩) ?_ ?_
         rotate_left
         ·intro w'; go_simp; with_reducible rfl
         rotate_left
         ·simp only [Act.put, List.setIfInBounds_toArray, List.set_cons_zero, List.set_cons_succ, zf, zh]; rfl
         refine zx (i := 23) (N := some 53) (v := ?_) (a' := ?_) #[true, true, true, true, true, true, true, true, true, true, true, true, true, true, true, true, true, true, true, true, true, true, true, true, false] rfl rfl (zn HT_.out (by kernel_rfl)) (fun _ _ _ h => h) (Or.inl ⟨by rfl, ?_⟩) ?_ ?_
         rotate_left
         ·intro w'; go_simp; with_reducible rfl
         rotate_left
         ·simp only [Act.put, List.setIfInBounds_toArray, List.set_cons_zero, List.set_cons_succ, zf, zh]; rfl
         refine ym (i := 24) (N := none) #[true, true, true, true, true, true, true, true, true, true, true, true, true, true, true, true, true, true, true, true, true, true, true, true, true] rfl rfl (jr HT_.out (by kernel_rfl)) (by decide) (fun K hK => ?_)
         refine yj (w1 := ?_) (by rfl) rfl ?_ ?_
         rotate_left
         ·go_simp
          rfl
         refine hK.out _ _ ?_
         clear hK K
         refine vI (jO HT_.out (by kernel_rfl)) ?_
         try go_wp2
         (try simp only [← hl148003_1])
         go_roundg k1
         case measure => have := HK1.out; omega
         case rel => exact ⟨(wrap64 (x7_1 + 1)), (y151), (sqD), H', ⟨by have := HK1.out; omega⟩, ⟨by (try simp only [hl148003_1]); refine sqR ?_; exact HQ19.out⟩, ⟨by (try simp only [hl148003_1]); refine sqK ?_; refine zi ?_ (by have h_ := Kd.qH HO_148003.out BK147.out (by decide); intro e_; exact h_ (by rw [e_]; rfl)) _; refine sqK ?_; exact BK147.out⟩, ⟨by repeat (first | (with_reducible first | exact HK.out | apply Kept.alloc | apply Kept.drewN | apply Kept.drew | refine Kept.setCell ?_ HMgo16.out _ | refine Kept.setCell ?_ (.inr GW147.out) _) | exact HK.out)⟩, ⟨by repeat (first | (with_reducible first | exact HB.out | apply qc | apply z6 | apply zT | refine zO ?_ GB16.out | refine zO ?_ GE147.out) | exact HB.out)⟩⟩
       ·rw [if_neg c14] at H
        exact absurd H (by simp)
      ·rw [if_neg c13] at H
       exact absurd H (by simp)
     ·rw [if_neg c11] at H
      have c11b0 : decide (x7_1 < a0_2) = false := decide_eq_false c11
      clear c11
      have H' := Aside0.mk H
      clear H
      have hcz20_0 : wr.cell? ⟨gb147, 0, none⟩ = some (.int .i64 a0_0) := (zb BK147.out 0).trans rfl
      have hcz20_1 : wr.cell? ⟨gb147, 1, none⟩ = some (.int .i64 a0_1) := (zb BK147.out 1).trans rfl
      have hcz20_2 : wr.cell? ⟨gb147, 2, none⟩ = some (.int .i64 a0_2) := (zb BK147.out 2).trans rfl
      have hcz20_3 : wr.cell? ⟨gb147, 3, none⟩ = some (.slice (some ad148) x148003_1.length co8) := (zb BK147.out 3).trans rfl
      have hfz20_0 := za BK147.out 0; have hfz20_1 := za BK147.out 1; have hfz20_2 := za BK147.out 2; have hfz20_3 := za BK147.out 3
      go_wp2
      go_loopg [8] k1 (fun kq v8 w' => ∃ (x8_2 : Int) (x148003_2 : List Int), v8 = .int .i64 x8_2 ∧ Aside0 (zl.l1 kq a1 a2 x8_2 a0_0 a0_1 a0_2 x148003_2 = some r) ∧ Aside0 (kq ≤ k1) ∧ Aside0 (Kd.R (Kd.int .i64) 3 w' w0.heap.size (fun k_ => (P0_3_ k_ ∨ w.heap.size ≤ k_)) (.slice (some ad148) x148003_1.length co8) x148003_2) ∧ Aside0 (w'.heap[gb147]? = some (.cells #[.int .i64 a0_0, .int .i64 a0_1, .int .i64 a0_2, (.slice (some ad148) x148003_1.length co8)] 27 (0, 0))) ∧ Aside0 (Kept w w' (fun k_ => P0_3_ k_)) ∧ Aside0 (Below w0.heap.size w0 w'))
      case atStart => exact ⟨(0), (x148003_1), (sqD), H', ⟨Nat.le_refl _⟩, ⟨by (try simp only [hl148003_1]); refine sqR ?_; exact HO_148003.out⟩, ⟨by (try simp only [hl148003_1]); refine sqK ?_; exact BK147.out⟩, ⟨by repeat (first | (with_reducible first | exact HK.out | apply Kept.alloc | apply Kept.drewN | apply Kept.drew | refine Kept.setCell ?_ (.inr GW147.out) _) | exact HK.out)⟩, ⟨sqB⟩⟩
      case round =>
       clear H'
       try clear c1
       try clear p1
       try clear q1
       try clear hx1
       try clear p2
       try clear c5
       try clear c5b0
       try clear c6
       try clear c6b0
       try clear p6
       try clear c7
       try clear c11
       try clear c11b0
       try clear c13
       try clear c13b0
       try clear c14
       try clear c14b0
       try clear p14
       try clear q14
       try clear hx14
       try clear c15
       try clear c15b0
       try clear c15b1
       try clear p15
       try clear q15
       try clear hx15
       try clear p16
       try clear q16
       try clear hx16
       try clear hf16
       try clear hcz17_0
       try clear hcz17_1
       try clear hcz17_2
       try clear hcz17_3
       try clear hcz20_0
       try clear hcz20_1
       try clear hcz20_2
       try clear hcz20_3
       try clear hfz17_0
       try clear hfz17_1
       try clear hfz17_2
       try clear hfz17_3
       try clear hfz20_0
       try clear hfz20_1
       try clear hfz20_2
       try clear hfz20_3
       try clear hx148_0
       try clear hx150_0
       try clear hx16_0
       try clear p1
       try clear p148
       try clear p150
       try clear p16
       try clear p2
       try clear p6
       try clear q1
       try clear q148
       try clear q150
       try clear q16
       obtain ⟨x8_2, x148003_2, rfl, HA, HK2, HO_148003, BK147, HK, HB⟩ := hrel
       have hl148003_2 := (Kd.zu HO_148003.out).1
       rw [hl148003_2] at HO_148003
       (try simp only [hl148003_2])
       (try simp only [hl148003_2] at BK147)
       cases gk with
       | zero => exact absurd HA.out (by simp [zl.l1])
       | succ k2 =>
        have H := HA.out
        clear HA
        simp only [zl.l1] at H
        by_cases c21 : x8_2 < a0_1
        ·rw [if_pos c21] at H
         have c21b0 : decide (x8_2 < a0_1) = true := decide_eq_true c21
         clear c21
         obtain ⟨ji22, hji22⟩ : ∃ j_ : Int, (wrap64 ((wrap64 (x8_2 * a0_2)) + a2)) = j_ := ⟨_, rfl⟩
         replace H : (if 0 ≤ (ji22) then (if (ji22) < (x148003_2.length : Int) then (zl.l2 k2 a1 a2 x8_2 (rd x148003_2 (ji22)) 0 a0_0 a0_1 a0_2 x148003_2) else (none)) else (none)) = some r := by first | (rw [hji22] at H; exact H) | (simp only [hji22] at H ⊢; exact H)
         have hji22w : (IntKind.i64.wrap ((wrap64 (x8_2 * a0_2)) + a2)) = ji22 := (zf _).trans hji22
         by_cases c23 : 0 ≤ (ji22)
         ·rw [if_pos c23] at H
          have c23b0 : decide (0 ≤ (ji22)) = true := decide_eq_true c23
          clear c23
          by_cases c24 : (ji22) < (x148003_2.length : Int)
          ·rw [if_pos c24] at H
           have c24b0 : decide ((ji22) < (x148003_2.length : Int)) = true := decide_eq_true c24
           (try simp only [hl148003_1, hl148003_2] at c24b0)
           clear c24
           have H' := Aside0.mk H
           clear H
           have hcz25_0 : wr.cell? ⟨gb147, 0, none⟩ = some (.int .i64 a0_0) := (zb BK147.out 0).trans rfl
           have hcz25_1 : wr.cell? ⟨gb147, 1, none⟩ = some (.int .i64 a0_1) := (zb BK147.out 1).trans rfl
           have hcz25_2 : wr.cell? ⟨gb147, 2, none⟩ = some (.int .i64 a0_2) := (zb BK147.out 2).trans rfl
           have hcz25_3 : wr.cell? ⟨gb147, 3, none⟩ = some (.slice (some ad148) x148003_2.length co8) := (zb BK147.out 3).trans rfl
           have hfz25_0 := za BK147.out 0; have hfz25_1 := za BK147.out 1; have hfz25_2 := za BK147.out 2; have hfz25_3 := za BK147.out 3
           have p152 : 0 ≤ ((ji22) : Int) := of_decide_eq_true sqA
           have q152 : (ji22) < (x148003_2.length : Int) := of_decide_eq_true sqA
           obtain ⟨ad152, e152, hx152_0⟩ := Kd.qh (Kd.zu HO_148003.out).2.2 (ji22) p152 q152
           obtain rfl : ad148 = ad152 := (by injection e152)
           replace p152 := eq_true p152
           replace q152 := eq_true q152
           go_wp2
           go_loopg [10] k2 (fun kq v10 w' => ∃ (x10_3 : Int) (x148003_3 : List Int), v10 = .int .i64 x10_3 ∧ Aside0 (zl.l2 kq a1 a2 x8_2 (rd x148003_2 (ji22)) x10_3 a0_0 a0_1 a0_2 x148003_3 = some r) ∧ Aside0 (kq ≤ k2) ∧ Aside0 (Kd.R (Kd.int .i64) 3 w' w0.heap.size (fun k_ => (P0_3_ k_ ∨ w.heap.size ≤ k_)) (.slice (some ad148) x148003_2.length co8) x148003_3) ∧ Aside0 (w'.heap[gb147]? = some (.cells #[.int .i64 a0_0, .int .i64 a0_1, .int .i64 a0_2, (.slice (some ad148) x148003_2.length co8)] 27 (0, 0))) ∧ Aside0 (Kept w w' (fun k_ => P0_3_ k_)) ∧ Aside0 (Below w0.heap.size w0 w'))
           case atStart => exact ⟨(0), (x148003_2), (sqD), H', ⟨Nat.le_refl _⟩, ⟨by (try simp only [hl148003_1]); (try simp only [hl148003_2]); refine sqR ?_; exact HO_148003.out⟩, ⟨by (try simp only [hl148003_1]); (try simp only [hl148003_2]); refine sqK ?_; exact BK147.out⟩, ⟨by repeat (first | (with_reducible first | exact HK.out | apply Kept.alloc | apply Kept.drewN | apply Kept.drew | refine Kept.setCell ?_ (.inr GW147.out) _) | exact HK.out)⟩, ⟨sqB⟩⟩
           case round =>
            clear H'
            try clear c1
            try clear p1
            try clear q1
            try clear hx1
            try clear c2
            try clear p2
            try clear c5
            try clear c5b0
            try clear c6
            try clear c6b0
            try clear p6
            try clear c7
            try clear c11
            try clear c11b0
            try clear c13
            try clear c13b0
            try clear c14
            try clear c14b0
            try clear p14
            try clear q14
            try clear hx14
            try clear c15
            try clear c15b0
            try clear c15b1
            try clear p15
            try clear q15
            try clear hx15
            try clear p16
            try clear q16
            try clear hx16
            try clear hf16
            try clear c21
            try clear c21b0
            try clear c23
            try clear c23b0
            try clear c24
            try clear c24b0
            try clear hcz17_0
            try clear hcz17_1
            try clear hcz17_2
            try clear hcz17_3
            try clear hcz20_0
            try clear hcz20_1
            try clear hcz20_2
            try clear hcz20_3
            try clear hcz25_0
            try clear hcz25_1
            try clear hcz25_2
            try clear hcz25_3
            try clear hfz17_0
            try clear hfz17_1
            try clear hfz17_2
            try clear hfz17_3
            try clear hfz20_0
            try clear hfz20_1
            try clear hfz20_2
            try clear hfz20_3
            try clear hfz25_0
            try clear hfz25_1
            try clear hfz25_2
            try clear hfz25_3
            try clear hx148_0
            try clear hx150_0
            try clear hx152_0
            try clear hx16_0
            try clear p1
            try clear p14
            try clear p148
            try clear p15
            try clear p150
            try clear p152
            try clear p16
            try clear p2
            try clear p6
            try clear q1
            try clear q14
            try clear q148
            try clear q15
            try clear q150
            try clear q152
            try clear q16
            obtain ⟨x10_3, x148003_3, rfl, HA, HK3, HO_148003, BK147, HK, HB⟩ := hrel
            have hl148003_3 := (Kd.zu HO_148003.out).1
            rw [hl148003_3] at HO_148003
            (try simp only [hl148003_3])
            (try simp only [hl148003_3] at BK147)
            cases gk with
            | zero => exact absurd HA.out (by simp [zl.l2])
            | succ k3 =>
             have H := HA.out
             clear HA
             simp only [zl.l2] at H
             by_cases c26 : x10_3 < a0_2
             ·rw [if_pos c26] at H
              have c26b0 : decide (x10_3 < a0_2) = true := decide_eq_true c26
              clear c26
              by_cases c27 : x8_2 = a1
              ·rw [if_pos c27] at H
               have c27b0 : (x8_2 == a1) = true := beq_iff_eq.mpr c27
               have c27b1 : (x8_2 != a1) = false := bne_eq_false_iff_eq.mpr c27
               clear c27
               have H' := Aside0.mk H
               clear H
               have hcz28_0 : wr.cell? ⟨gb147, 0, none⟩ = some (.int .i64 a0_0) := (zb BK147.out 0).trans rfl
               have hcz28_1 : wr.cell? ⟨gb147, 1, none⟩ = some (.int .i64 a0_1) := (zb BK147.out 1).trans rfl
               have hcz28_2 : wr.cell? ⟨gb147, 2, none⟩ = some (.int .i64 a0_2) := (zb BK147.out 2).trans rfl
               have hcz28_3 : wr.cell? ⟨gb147, 3, none⟩ = some (.slice (some ad148) x148003_3.length co8) := (zb BK147.out 3).trans rfl
               have hfz28_0 := za BK147.out 0; have hfz28_1 := za BK147.out 1; have hfz28_2 := za BK147.out 2; have hfz28_3 := za BK147.out 3
               go_wp2
               (try simp only [← hl148003_2, ← hl148003_3])
               go_roundg k3
               case measure => have := HK1.out; have := HK2.out; have := HK3.out; omega
               case rel => exact ⟨(wrap64 (x8_2 + 1)), (x148003_3), (sqD), H', ⟨by have := HK1.out; have := HK2.out; have := HK3.out; omega⟩, ⟨by (try simp only [hl148003_1]); (try simp only [hl148003_2]); (try simp only [hl148003_3]); refine sqR ?_; exact HO_148003.out⟩, ⟨by (try simp only [hl148003_1]); (try simp only [hl148003_2]); (try simp only [hl148003_3]); refine sqK ?_; exact BK147.out⟩, ⟨by repeat (first | (with_reducible first | exact HK.out | apply Kept.alloc | apply Kept.drewN | apply Kept.drew | refine Kept.setCell ?_ (.inr GW147.out) _) | exact HK.out)⟩, ⟨sqB⟩⟩
              ·rw [if_neg c27] at H
               have c27b0 : (x8_2 == a1) = false := beq_eq_false_iff_ne.mpr c27
               have c27b1 : (x8_2 != a1) = true := bne_iff_ne.mpr c27
               obtain ⟨ji29, hji29⟩ : ∃ j_ : Int, (wrap64 ((wrap64 (x8_2 * a0_2)) + x10_3)) = j_ := ⟨_, rfl⟩
               replace H : (if 0 ≤ (ji29) then (if (ji29) < (x148003_3.length : Int) then (if 0 ≤ (wrap64 ((wrap64 (a1 * a0_2)) + x10_3)) then (if (wrap64 ((wrap64 (a1 * a0_2)) + x10_3)) < (x148003_3.length : Int) then (if a0_0 = 0 then (none) else (zl.l2 k3 a1 a2 x8_2 (rd x148003_2 (ji22)) (wrap64 (x10_3 + 1)) a0_0 a0_1 a0_2 (x148003_3.set ((ji29) : Int).toNat (Int.tmod (wrap64 ((rd x148003_3 (ji29)) + (wrap64 ((wrap64 (a0_0 - (rd x148003_2 (ji22)))) * (rd x148003_3 (wrap64 ((wrap64 (a1 * a0_2)) + x10_3))))))) a0_0)))) else (none)) else (none)) else (none)) else (none)) = some r := by first | (rw [hji29] at H; exact H) | (simp only [hji29] at H ⊢; exact H)
               have hji29w : (IntKind.i64.wrap ((wrap64 (x8_2 * a0_2)) + x10_3)) = ji29 := (zf _).trans hji29
               by_cases c30 : 0 ≤ (ji29)
               ·rw [if_pos c30] at H
                have c30b0 : decide (0 ≤ (ji29)) = true := decide_eq_true c30
                clear c30
                by_cases c31 : (ji29) < (x148003_3.length : Int)
                ·rw [if_pos c31] at H
                 have c31b0 : decide ((ji29) < (x148003_3.length : Int)) = true := decide_eq_true c31
                 (try simp only [hl148003_1, hl148003_2, hl148003_3] at c31b0)
                 clear c31
                 obtain ⟨ji32, hji32⟩ : ∃ j_ : Int, (wrap64 ((wrap64 (a1 * a0_2)) + x10_3)) = j_ := ⟨_, rfl⟩
                 replace H : (if 0 ≤ (ji32) then (if (ji32) < (x148003_3.length : Int) then (if a0_0 = 0 then (none) else (zl.l2 k3 a1 a2 x8_2 (rd x148003_2 (ji22)) (wrap64 (x10_3 + 1)) a0_0 a0_1 a0_2 (x148003_3.set ((ji29) : Int).toNat (Int.tmod (wrap64 ((rd x148003_3 (ji29)) + (wrap64 ((wrap64 (a0_0 - (rd x148003_2 (ji22)))) * (rd x148003_3 (ji32)))))) a0_0)))) else (none)) else (none)) = some r := by first | (rw [hji32] at H; exact H) | (simp only [hji32] at H ⊢; exact H)
                 have hji32w : (IntKind.i64.wrap ((wrap64 (a1 * a0_2)) + x10_3)) = ji32 := (zf _).trans hji32
                 by_cases c33 : 0 ≤ (ji32)
                 ·rw [if_pos c33] at H
                  have c33b0 : decide (0 ≤ (ji32)) = true := decide_eq_true c33
                  clear c33
                  by_cases c34 : (ji32) < (x148003_3.length : Int)
                  ·rw [if_pos c34] at H
                   have c34b0 : decide ((ji32) < (x148003_3.length : Int)) = true := decide_eq_true c34
                   (try simp only [hl148003_1, hl148003_2, hl148003_3] at c34b0)
                   clear c34
                   by_cases c35 : a0_0 = 0
                   ·rw [if_pos c35] at H
                    exact absurd H (by simp)
                   ·rw [if_neg c35] at H
                    have c35b0 : (a0_0 == 0) = false := beq_eq_false_iff_ne.mpr c35
                    have c35b1 : (a0_0 != 0) = true := bne_iff_ne.mpr c35
                    obtain ⟨y155, hy155⟩ : ∃ y_ : List Int, y_ = (x148003_3.set ((ji29) : Int).toNat (Int.tmod (wrap64 ((rd x148003_3 (ji29)) + (wrap64 ((wrap64 (a0_0 - (rd x148003_2 (ji22)))) * (rd x148003_3 (ji32)))))) a0_0)) := ⟨_, rfl⟩
                    replace H : (zl.l2 k3 a1 a2 x8_2 (rd x148003_2 (ji22)) (wrap64 (x10_3 + 1)) a0_0 a0_1 a0_2 y155) = some r := by first | (rw [hy155]; with_reducible exact H) | (have H2_ := (Option.bind_some _ _).symm.trans H; rw [hy155]; with_reducible exact H2_) | (have H2_ := (Option.bind_some _ _).symm.trans H; with_reducible exact H2_) | with_reducible exact H | (rw [hy155]; exact H) | exact H
                    have Ny155 := Aside0.mk hy155
                    clear hy155
                    have H' := Aside0.mk H
                    clear H
                    have hcz37_0 : wr.cell? ⟨gb147, 0, none⟩ = some (.int .i64 a0_0) := (zb BK147.out 0).trans rfl
                    have hcz37_1 : wr.cell? ⟨gb147, 1, none⟩ = some (.int .i64 a0_1) := (zb BK147.out 1).trans rfl
                    have hcz37_2 : wr.cell? ⟨gb147, 2, none⟩ = some (.int .i64 a0_2) := (zb BK147.out 2).trans rfl
                    have hcz37_3 : wr.cell? ⟨gb147, 3, none⟩ = some (.slice (some ad148) x148003_3.length co8) := (zb BK147.out 3).trans rfl
                    have hfz37_0 := za BK147.out 0; have hfz37_1 := za BK147.out 1; have hfz37_2 := za BK147.out 2; have hfz37_3 := za BK147.out 3
                    try go_wp2
                    have n0_ := Aside0.mk (Kd.qM HO_148003.out)
                    have n1_ := Aside0.mk (qd BK147.out)
                    have n2_ := Aside0.mk (Kept.drew HK.out)
                    have n3_ := Aside0.mk (zT HB.out)
                    clear HO_148003 BK147 HK HB; have HO_148003 := n0_; have BK147 := n1_; have HK := n2_; have HB := n3_; clear n0_ n1_ n2_ n3_
                    have p153 : 0 ≤ ((ji29) : Int) := of_decide_eq_true sqA
                    have q153 : (ji29) < (x148003_3.length : Int) := of_decide_eq_true sqA
                    obtain ⟨ad153, e153, hx153_0⟩ := Kd.qh (Kd.zu HO_148003.out).2.2 (ji29) p153 q153
                    obtain rfl : ad148 = ad153 := (by injection e153)
                    replace p153 := eq_true p153
                    replace q153 := eq_true q153
                    have p154 : 0 ≤ ((ji32) : Int) := of_decide_eq_true sqA
                    have q154 : (ji32) < (x148003_3.length : Int) := of_decide_eq_true sqA
                    obtain ⟨ad154, e154, hx154_0⟩ := Kd.qh (Kd.zu HO_148003.out).2.2 (ji32) p154 q154
                    obtain rfl : ad148 = ad154 := (by injection e154)
                    replace p154 := eq_true p154
                    replace q154 := eq_true q154
                    have p36 : 0 ≤ ((ji29) : Int) := of_decide_eq_true sqA
                    have q36 : ((ji29) : Int) < ((x148003_3.length : Int) : Int) := of_decide_eq_true sqA
                    obtain ⟨go36, co36, eo36, gb36, gl36, cl36, HG36⟩ := Kd.vq HO_148003.out (by omega)
                    (first | cases eo36 | (injection eo36 with ea_ en_ ec_; (first | subst ea_ | (injection ea_ with ea_; subst ea_)); subst ec_; clear en_))
                    (try simp only [add_plain] at *)
                    have GB36 := Aside0.mk gb36
                    have GG36 := Aside0.mk HG36
                    clear gb36 gl36 HG36
                    have HMgo36 := Aside0.mk (show (P0_3_ go36 ∨ w.heap.size ≤ go36) from (HO_148003.out.1 _ rfl))
                    (first | simp only [add_plain] at hx152_0 | skip)
                    (first | simp only [add_plain] at hx153_0 | skip)
                    (first | simp only [add_plain] at hx154_0 | skip)
                    obtain ⟨hx36_0, hf36_0⟩ := Kd.qX 0 HO_148003.out ((ji29) : Int) p36 q36
                    replace p36 := eq_true p36
                    replace q36 := eq_true q36
                    have HP39 := Kd.Zr HO_148003.out ((ji29) : Int) (Int.tmod (wrap64 ((rd x148003_3 (ji29)) + (wrap64 ((wrap64 (a0_0 - (rd x148003_2 (ji22)))) * (rd x148003_3 (ji32)))))) a0_0)
                    rw [← Ny155.out] at HP39
                    have HQ39 := Aside0.mk HP39
                    clear HP39
                    refine jU (n := 39) (S := fun w' => w'.cell? ⟨gb147, 0, none⟩ = some (.int .i64 a0_0) ∧ w'.cell? ⟨gb147, 1, none⟩ = some (.int .i64 a0_1) ∧ w'.cell? ⟨gb147, 2, none⟩ = some (.int .i64 a0_2) ∧ w'.cell? ⟨gb147, 3, none⟩ = some (.slice (some ⟨go36, 0, none⟩) x148003_3.length co8) ∧ w'.cell? ⟨go36, ((ji29)).toNat, none⟩ = some (.int .i64 (rd x148003_3 (ji29))) ∧ w'.cell? ⟨go36, ((ji32)).toNat, none⟩ = some (.int .i64 (rd x148003_3 (ji32)))) (ds := [38]) #[false, false, false, false, false, false, false, false, false, false, false, false, false, false, false, false, false, false, false, false, false, false, false, false, false, false, false, false, false, false, false, false, false, false, false, false, false, false, false] (by kernel_rfl) rfl rfl ⟨(zb BK147.out 0).trans rfl, (zb BK147.out 1).trans rfl, (zb BK147.out 2).trans rfl, (zb BK147.out 3).trans rfl, hx153_0, hx154_0⟩ (fun hHeld => ?_); refine qZ zl.zac zl.YT (fun HT_ HW_ => ?_)
                    generalize wr.drew = w38 at HO_148003 BK147 HK HB GG36 HQ39 hf36_0 hx153_0 hx154_0 hx36_0 hHeld ⊢
                    refine zx (i := 0) (N := some 81) (v := ?_) (a' := ?_) #[true, false, false, false, false, false, false, false, false, false, false, false, false, false, false, false, false, false, false, false, false, false, false, false, false, false, false, false, false, false, false, false, false, false, false, false, false, false, false] rfl rfl (zn HT_.out (by kernel_rfl)) (fun _ _ _ h => h) (Or.inl ⟨by rfl, ?_⟩) ?_ ?_
                    rotate_left
                    ·intro w'; go_simp; with_reducible rfl
                    rotate_left
                    ·simp only [Act.put, List.setIfInBounds_toArray, List.set_cons_zero, List.set_cons_succ, zf, zh]; rfl
                    refine zx (i := 2) (N := some 83) (v := ?_) (a' := ?_) #[true, false, true, false, false, false, false, false, false, false, false, false, false, false, false, false, false, false, false, false, false, false, false, false, false, false, false, false, false, false, false, false, false, false, false, false, false, false, false] rfl rfl (zn HT_.out (by kernel_rfl)) (fun _ _ _ h => h) (Or.inl ⟨by rfl, ?_⟩) ?_ ?_
                    rotate_left
                    ·intro w'; go_simp; with_reducible rfl
                    rotate_left
                    ·simp only [Act.put, List.setIfInBounds_toArray, List.set_cons_zero, List.set_cons_succ, zf, zh]; rfl
                    refine zx (i := 3) (N := some 84) (v := ?_) (a' := ?_) #[true, false, true, true, false, false, false, false, false, false, false, false, false, false, false, false, false, false, false, false, false, false, false, false, false, false, false, false, false, false, false, false, false, false, false, false, false, false, false] rfl rfl (zn HT_.out (by kernel_rfl)) (fun _ _ _ h => h) (Or.inl ⟨by rfl, ?_⟩) ?_ ?_
                    rotate_left
                    ·intro w'; go_simp; with_reducible rfl
                    rotate_left
                    ·simp only [Act.put, List.setIfInBounds_toArray, List.set_cons_zero, List.set_cons_succ, zf, zh]; rfl
                    refine zx (i := 6) (N := some 87) (v := ?_) (a' := ?_) #[true, false, true, true, false, false, true, false, false, false, false, false, false, false, false, false, false, false, false, false, false, false, false, false, false, false, false, false, false, false, false, false, false, false, false, false, false, false, false] rfl rfl (zn HT_.out (by kernel_rfl)) (fun _ _ _ h => h) (Or.inl ⟨by rfl, ?_⟩) ?_ ?_
                    rotate_left
                    ·intro w'; go_simp; with_reducible rfl
                    rotate_left
                    ·simp only [Act.put, List.setIfInBounds_toArray, List.set_cons_zero, List.set_cons_succ, zf, zh]; rfl
                    refine zx (i := 8) (N := some 89) (v := ?_) (a' := ?_) #[true, false, true, true, false, false, true, false, true, false, false, false, false, false, false, false, false, false, false, false, false, false, false, false, false, false, false, false, false, false, false, false, false, false, false, false, false, false, false] rfl rfl (zn HT_.out (by kernel_rfl)) (fun _ _ _ h => h) (Or.inl ⟨by rfl, ?_⟩) ?_ ?_
                    rotate_left
                    ·intro w'; go_simp; with_reducible rfl
                    rotate_left
                    ·simp only [Act.put, List.setIfInBounds_toArray, List.set_cons_zero, List.set_cons_succ, zf, zh]; rfl
                    refine zx (i := 10) (N := some 91) (v := ?_) (a' := ?_) #[true, false, true, true, false, false, true, false, true, false, true, false, false, false, false, false, false, false, false, false, false, false, false, false, false, false, false, false, false, false, false, false, false, false, false, false, false, false, false] rfl rfl (zn HT_.out (by kernel_rfl)) (fun _ _ _ h => h) (Or.inl ⟨by rfl, ?_⟩) ?_ ?_
                    rotate_left
                    ·intro w'; go_simp; with_reducible rfl
                    rotate_left
                    ·simp only [Act.put, List.setIfInBounds_toArray, List.set_cons_zero, List.set_cons_succ, zf, zh]; rfl
                    refine zx (i := 11) (N := some 92) (v := ?_) (a' := ?_) #[true, false, true, true, false, false, true, false, true, false, true, true, false, false, false, false, false, false, false, false, false, false, false, false, false, false, false, false, false, false, false, false, false, false, false, false, false, false, false] rfl rfl (zn HT_.out (by kernel_rfl)) (fun _ _ _ h => h) (Or.inl ⟨by rfl, ?_⟩) ?_ ?_
                    rotate_left
                    ·intro w'; go_simp; with_reducible rfl
                    rotate_left
                    ·simp only [Act.put, List.setIfInBounds_toArray, List.set_cons_zero, List.set_cons_succ, zf, zh]; rfl
                    refine zx (i := 14) (N := some 95) (v := ?_) (a' := ?_) #[true, false, true, true, false, false, true, false, true, false, true, true, false, false, true, false, false, false, false, false, false, false, false, false, false, false, false, false, false, false, false, false, false, false, false, false, false, false, false] rfl rfl (zn HT_.out (by kernel_rfl)) (fun _ _ _ h => h) (Or.inl ⟨by rfl, ?_⟩) ?_ ?_
                    rotate_left
                    ·intro w'; go_simp; with_reducible rfl
                    rotate_left
                    ·simp only [Act.put, List.setIfInBounds_toArray, List.set_cons_zero, List.set_cons_succ, zf, zh]; rfl
                    refine zx (i := 18) (N := some 99) (v := ?_) (a' := ?_) #[true, false, true, true, false, false, true, false, true, false, true, true, false, false, true, false, false, false, true, false, false, false, false, false, false, false, false, false, false, false, false, false, false, false, false, false, false, false, false] rfl rfl (zn HT_.out (by kernel_rfl)) (fun _ _ _ h => h) (Or.inl ⟨by rfl, ?_⟩) ?_ ?_
                    rotate_left
                    ·intro w'; go_simp; with_reducible rfl
                    rotate_left
                    ·simp only [Act.put, List.setIfInBounds_toArray, List.set_cons_zero, List.set_cons_succ, zf, zh]; rfl
                    refine zx (i := 20) (N := some 101) (v := ?_) (a' := ?_) #[true, false, true, true, false, false, true, false, true, false, true, true, false, false, true, false, false, false, true, false, true, false, false, false, false, false, false, false, false, false, false, false, false, false, false, false, false, false, false] rfl rfl (zn HT_.out (by kernel_rfl)) (fun _ _ _ h => h) (Or.inl ⟨by rfl, ?_⟩) ?_ ?_
                    rotate_left
                    ·intro w'; go_simp; with_reducible rfl
                    rotate_left
                    ·simp only [Act.put, List.setIfInBounds_toArray, List.set_cons_zero, List.set_cons_succ, zf, zh]; rfl
                    refine zx (i := 22) (N := some 103) (v := ?_) (a' := ?_) #[true, false, true, true, false, false, true, false, true, false, true, true, false, false, true, false, false, false, true, false, true, false, true, false, false, false, false, false, false, false, false, false, false, false, false, false, false, false, false] rfl rfl (zn HT_.out (by kernel_rfl)) (fun _ _ _ h => h) (Or.inl ⟨by rfl, ?_⟩) ?_ ?_
                    rotate_left
                    ·intro w'; go_simp; with_reducible rfl
                    rotate_left
                    ·simp only [Act.put, List.setIfInBounds_toArray, List.set_cons_zero, List.set_cons_succ, zf, zh]; rfl
                    refine zx (i := 24) (N := some 105) (v := ?_) (a' := ?_) #[true, false, true, true, false, false, true, false, true, false, true, true, false, false, true, false, false, false, true, false, true, false, true, false, true, false, false, false, false, false, false, false, false, false, false, false, false, false, false] rfl rfl (zn HT_.out (by kernel_rfl)) (fun _ _ _ h => h) (Or.inl ⟨by rfl, ?_⟩) ?_ ?_
                    rotate_left
                    ·intro w'; go_simp; with_reducible rfl
                    rotate_left
                    ·simp only [Act.put, List.setIfInBounds_toArray, List.set_cons_zero, List.set_cons_succ, zf, zh]; rfl
                    refine zx (i := 25) (N := some 106) (v := ?_) (a' := ?_) #[true, false, true, true, false, false, true, false, true, false, true, true, false, false, true, false, false, false, true, false, true, false, true, false, true, true, false, false, false, false, false, false, false, false, false, false, false, false, false] rfl rfl (zn HT_.out (by kernel_rfl)) (fun _ _ _ h => h) (Or.inl ⟨by rfl, ?_⟩) ?_ ?_
                    rotate_left
                    ·intro w'; go_simp; with_reducible rfl
                    rotate_left
                    ·simp only [Act.put, List.setIfInBounds_toArray, List.set_cons_zero, List.set_cons_succ, zf, zh]; rfl
                    refine zx (i := 28) (N := some 109) (v := ?_) (a' := ?_) #[true, false, true, true, false, false, true, false, true, false, true, true, false, false, true, false, false, false, true, false, true, false, true, false, true, true, false, false, true, false, false, false, false, false, false, false, false, false, false] rfl rfl (zn HT_.out (by kernel_rfl)) (fun _ _ _ h => h) (Or.inl ⟨by rfl, ?_⟩) ?_ ?_
                    rotate_left
                    ·intro w'; go_simp; with_reducible rfl
                    rotate_left
                    ·simp only [Act.put, List.setIfInBounds_toArray, List.set_cons_zero, List.set_cons_succ, zf, zh]; rfl
                    refine zx (i := 34) (N := some 115) (v := ?_) (a' := ?_) #[true, false, true, true, false, false, true, false, true, false, true, true, false, false, true, false, false, false, true, false, true, false, true, false, true, true, false, false, true, false, false, false, false, false, true, false, false, false, false] rfl rfl (zn HT_.out (by kernel_rfl)) (fun _ _ _ h => h) (Or.inl ⟨by rfl, ?_⟩) ?_ ?_
                    rotate_left
                    ·intro w'; go_simp; with_reducible rfl
                    rotate_left
                    ·simp only [Act.put, List.setIfInBounds_toArray, List.set_cons_zero, List.set_cons_succ, zf, zh]; rfl
                    refine qe (i := 1) (N := some 82) (v := ?_) (a' := ?_) #[true, true, true, true, false, false, true, false, true, false, true, true, false, false, true, false, false, false, true, false, true, false, true, false, true, true, false, false, true, false, false, false, false, false, true, false, false, false, false] rfl rfl (zM HT_.out HW_.out (by kernel_rfl)) (fun _ _ _ h => h) (Or.inl ⟨by rfl, ?_⟩) hHeld ?_ ?_
                    rotate_left
                    ·rintro w' ⟨s0, s1, s2, s3, s4, s5⟩; go_simp; with_reducible rfl
                    rotate_left
                    ·simp only [Act.put, List.setIfInBounds_toArray, List.set_cons_zero, List.set_cons_succ, zf, zh]; rfl
                    refine qe (i := 4) (N := some 85) (v := ?_) (a' := ?_) #[true, true, true, true, true, false, true, false, true, false, true, true, false, false, true, false, false, false, true, false, true, false, true, false, true, true, false, false, true, false, false, false, false, false, true, false, false, false, false] rfl rfl (zM HT_.out HW_.out (by kernel_rfl)) (fun _ _ _ h => h) (Or.inl ⟨by rfl, ?_⟩) hHeld ?_ ?_
                    rotate_left
                    ·rintro w' ⟨s0, s1, s2, s3, s4, s5⟩; go_simp; with_reducible rfl
                    rotate_left
                    ·simp only [Act.put, List.setIfInBounds_toArray, List.set_cons_zero, List.set_cons_succ, zf, zh]; rfl
                    refine zx (i := 5) (N := some 86) (v := ?_) (a' := ?_) #[true, true, true, true, true, true, true, false, true, false, true, true, false, false, true, false, false, false, true, false, true, false, true, false, true, true, false, false, true, false, false, false, false, false, true, false, false, false, false] rfl rfl (zn HT_.out (by kernel_rfl)) (fun _ _ _ h => h) (Or.inl ⟨by rfl, ?_⟩) ?_ ?_
                    rotate_left
                    ·intro w'; go_simp; with_reducible rfl
                    rotate_left
                    ·simp only [Act.put, List.setIfInBounds_toArray, List.set_cons_zero, List.set_cons_succ, zf, zh]; rfl
                    refine zx (i := 7) (N := some 88) (v := ?_) (a' := ?_) #[true, true, true, true, true, true, true, true, true, false, true, true, false, false, true, false, false, false, true, false, true, false, true, false, true, true, false, false, true, false, false, false, false, false, true, false, false, false, false] rfl rfl (zn HT_.out (by kernel_rfl)) (fun _ _ _ h => h) (Or.inl ⟨by rfl, ?_⟩) ?_ ?_
                    rotate_left
                    ·intro w'; go_simp; with_reducible rfl
                    rotate_left
                    ·simp only [Act.put, List.setIfInBounds_toArray, List.set_cons_zero, List.set_cons_succ, zf, zh]; rfl
                    refine qe (i := 9) (N := some 90) (v := ?_) (a' := ?_) #[true, true, true, true, true, true, true, true, true, true, true, true, false, false, true, false, false, false, true, false, true, false, true, false, true, true, false, false, true, false, false, false, false, false, true, false, false, false, false] rfl rfl (zM HT_.out HW_.out (by kernel_rfl)) (fun _ _ _ h => h) (Or.inl ⟨by rfl, ?_⟩) hHeld ?_ ?_
                    rotate_left
                    ·rintro w' ⟨s0, s1, s2, s3, s4, s5⟩; go_simp; with_reducible rfl
                    rotate_left
                    ·simp only [Act.put, List.setIfInBounds_toArray, List.set_cons_zero, List.set_cons_succ, zf, zh]; rfl
                    refine qe (i := 12) (N := some 93) (v := ?_) (a' := ?_) #[true, true, true, true, true, true, true, true, true, true, true, true, true, false, true, false, false, false, true, false, true, false, true, false, true, true, false, false, true, false, false, false, false, false, true, false, false, false, false] rfl rfl (zM HT_.out HW_.out (by kernel_rfl)) (fun _ _ _ h => h) (Or.inl ⟨by rfl, ?_⟩) hHeld ?_ ?_
                    rotate_left
                    ·rintro w' ⟨s0, s1, s2, s3, s4, s5⟩; go_simp; with_reducible rfl
                    rotate_left
                    ·simp only [Act.put, List.setIfInBounds_toArray, List.set_cons_zero, List.set_cons_succ, zf, zh]; rfl
                    refine zx (i := 13) (N := some 94) (v := ?_) (a' := ?_) #[true, true, true, true, true, true, true, true, true, true, true, true, true, true, true, false, false, false, true, false, true, false, true, false, true, true, false, false, true, false, false, false, false, false, true, false, false, false, false] rfl rfl (zn HT_.out (by kernel_rfl)) (fun _ _ _ h => h) (Or.inl ⟨by rfl, ?_⟩) ?_ ?_
                    rotate_left
                    ·intro w'; go_simp; with_reducible rfl
                    rotate_left
                    ·simp only [Act.put, List.setIfInBounds_toArray, List.set_cons_zero, List.set_cons_succ, zf, zh]; rfl
                    refine zx (i := 15) (N := some 96) (v := ?_) (a' := ?_) #[true, true, true, true, true, true, true, true, true, true, true, true, true, true, true, true, false, false, true, false, true, false, true, false, true, true, false, false, true, false, false, false, false, false, true, false, false, false, false] rfl rfl (zn HT_.out (by kernel_rfl)) (fun _ _ _ h => h) (Or.inl ⟨by rfl, ?_⟩) ?_ ?_
                    rotate_left
                    ·intro w'; go_simp; with_reducible rfl
                    rotate_left
                    ·simp only [Act.put, List.setIfInBounds_toArray, List.set_cons_zero, List.set_cons_succ, zf, zh]; rfl
                    refine zx (i := 16) (N := some 97) (v := ?_) (a' := ?_) #[true, true, true, true, true, true, true, true, true, true, true, true, true, true, true, true, true, false, true, false, true, false, true, false, true, true, false, false, true, false, false, false, false, false, true, false, false, false, false] rfl rfl (zn HT_.out (by kernel_rfl)) (fun _ _ _ h => h) (Or.inl ⟨by rfl, ?_⟩) ?_ ?_
                    rotate_left
                    ·intro w'; go_simp; with_reducible rfl
                    rotate_left
                    ·simp only [Act.put, List.setIfInBounds_toArray, List.set_cons_zero, List.set_cons_succ, zf, zh]; rfl
                    refine qe (i := 17) (N := some 98) (v := ?_) (a' := ?_) #[true, true, true, true, true, true, true, true, true, true, true, true, true, true, true, true, true, true, true, false, true, false, true, false, true, true, false, false, true, false, false, false, false, false, true, false, false, false, false] rfl rfl (zM HT_.out HW_.out (by kernel_rfl)) (fun _ _ _ h => h) (Or.inl ⟨by rfl, ?_⟩) hHeld ?_ ?_
                    rotate_left
                    ·rintro w' ⟨s0, s1, s2, s3, s4, s5⟩; go_simp; with_reducible rfl
                    rotate_left
                    ·simp only [Act.put, List.setIfInBounds_toArray, List.set_cons_zero, List.set_cons_succ, zf, zh]; rfl
                    refine qe (i := 19) (N := some 100) (v := ?_) (a' := ?_) #[true, true, true, true, true, true, true, true, true, true, true, true, true, true, true, true, true, true, true, true, true, false, true, false, true, true, false, false, true, false, false, false, false, false, true, false, false, false, false] rfl rfl (zM HT_.out HW_.out (by kernel_rfl)) (fun _ _ _ h => h) (Or.inl ⟨by rfl, ?_⟩) hHeld ?_ ?_
                    rotate_left
                    ·rintro w' ⟨s0, s1, s2, s3, s4, s5⟩; go_simp; with_reducible rfl
                    rotate_left
                    ·simp only [Act.put, List.setIfInBounds_toArray, List.set_cons_zero, List.set_cons_succ, zf, zh]; rfl
                    refine zx (i := 21) (N := some 102) (v := ?_) (a' := ?_) #[true, true, true, true, true, true, true, true, true, true, true, true, true, true, true, true, true, true, true, true, true, true, true, false, true, true, false, false, true, false, false, false, false, false, true, false, false, false, false] rfl rfl (zn HT_.out (by kernel_rfl)) (fun _ _ _ h => h) (Or.inl ⟨by rfl, ?_⟩) ?_ ?_
                    rotate_left
                    ·intro w'; go_simp; with_reducible rfl
                    rotate_left
                    ·simp only [Act.put, List.setIfInBounds_toArray, List.set_cons_zero, List.set_cons_succ, zf, zh]; rfl
                    refine qe (i := 23) (N := some 104) (v := ?_) (a' := ?_) #[true, true, true, true, true, true, true, true, true, true, true, true, true, true, true, true, true, true, true, true, true, true, true, true, true, true, false, false, true, false, false, false, false, false, true, false, false, false, false] rfl rfl (zM HT_.out HW_.out (by kernel_rfl)) (fun _ _ _ h => h) (Or.inl ⟨by rfl, ?_⟩) hHeld ?_ ?_
                    rotate_left
                    ·rintro w' ⟨s0, s1, s2, s3, s4, s5⟩; go_simp; with_reducible rfl
                    rotate_left
                    ·simp only [Act.put, List.setIfInBounds_toArray, List.set_cons_zero, List.set_cons_succ, zf, zh]; rfl
                    refine qe (i := 26) (N := some 107) (v := ?_) (a' := ?_) #[true, true, true, true, true, true, true, true, true, true, true, true, true, true, true, true, true, true, true, true, true, true, true, true, true, true, true, false, true, false, false, false, false, false, true, false, false, false, false] rfl rfl (zM HT_.out HW_.out (by kernel_rfl)) (fun _ _ _ h => h) (Or.inl ⟨by rfl, ?_⟩) hHeld ?_ ?_
                    rotate_left
                    ·rintro w' ⟨s0, s1, s2, s3, s4, s5⟩; go_simp; with_reducible rfl
                    rotate_left
                    ·simp only [Act.put, List.setIfInBounds_toArray, List.set_cons_zero, List.set_cons_succ, zf, zh]; rfl
                    refine zx (i := 27) (N := some 108) (v := ?_) (a' := ?_) #[true, true, true, true, true, true, true, true, true, true, true, true, true, true, true, true, true, true, true, true, true, true, true, true, true, true, true, true, true, false, false, false, false, false, true, false, false, false, false] rfl rfl (zn HT_.out (by kernel_rfl)) (fun _ _ _ h => h) (Or.inl ⟨by rfl, ?_⟩) ?_ ?_
                    rotate_left
                    ·intro w'; go_simp; with_reducible rfl
                    rotate_left
                    ·simp only [Act.put, List.setIfInBounds_toArray, List.set_cons_zero, List.set_cons_succ, zf, zh]; rfl
                    refine zx (i := 29) (N := some 110) (v := ?_) (a' := ?_) #[true, true, true, true, true, true, true, true, true, true, true, true, true, true, true, true, true, true, true, true, true, true, true, true, true, true, true, true, true, true, false, false, false, false, true, false, false, false, false] rfl rfl (zn HT_.out (by kernel_rfl)) (fun _ _ _ h => h) (Or.inl ⟨by rfl, ?_⟩) ?_ ?_
                    rotate_left
                    ·intro w'; go_simp; with_reducible rfl
                    rotate_left
                    ·simp only [Act.put, List.setIfInBounds_toArray, List.set_cons_zero, List.set_cons_succ, zf, zh]; rfl
                    refine zx (i := 30) (N := some 111) (v := ?_) (a' := ?_) #[true, true, true, true, true, true, true, true, true, true, true, true, true, true, true, true, true, true, true, true, true, true, true, true, true, true, true, true, true, true, true, false, false, false, true, false, false, false, false] rfl rfl (zn HT_.out (by kernel_rfl)) (fun _ _ _ h => h) (Or.inl ⟨by rfl, ?_⟩) ?_ ?_
                    rotate_left
                    ·intro w'; go_simp; with_reducible rfl
                    rotate_left
                    ·simp only [Act.put, List.setIfInBounds_toArray, List.set_cons_zero, List.set_cons_succ, zf, zh]; rfl
                    refine qe (i := 31) (N := some 112) (v := ?_) (a' := ?_) #[true, true, true, true, true, true, true, true, true, true, true, true, true, true, true, true, true, true, true, true, true, true, true, true, true, true, true, true, true, true, true, true, false, false, true, false, false, false, false] rfl rfl (zM HT_.out HW_.out (by kernel_rfl)) (fun _ _ _ h => h) (Or.inl ⟨by rfl, ?_⟩) hHeld ?_ ?_
                    rotate_left
                    ·rintro w' ⟨s0, s1, s2, s3, s4, s5⟩; go_simp; with_reducible rfl
                    rotate_left
                    ·simp only [Act.put, List.setIfInBounds_toArray, List.set_cons_zero, List.set_cons_succ, zf, zh]; rfl
                    refine zx (i := 32) (N := some 113) (v := ?_) (a' := ?_) #[true, true, true, true, true, true, true, true, true, true, true, true, true, true, true, true, true, true, true, true, true, true, true, true, true, true, true, true, true, true, true, true, true, false, true, false, false, false, false] rfl rfl (zn HT_.out (by kernel_rfl)) (fun _ _ _ h => h) (Or.inl ⟨by rfl, ?_⟩) ?_ ?_
                    rotate_left
                    ·intro w'; go_simp; with_reducible rfl
                    rotate_left
                    ·simp only [Act.put, List.setIfInBounds_toArray, List.set_cons_zero, List.set_cons_succ, zf, zh]; rfl
                    refine zx (i := 33) (N := some 114) (v := ?_) (a' := ?_) #[true, true, true, true, true, true, true, true, true, true, true, true, true, true, true, true, true, true, true, true, true, true, true, true, true, true, true, true, true, true, true, true, true, true, true, false, false, false, false] rfl rfl (zn HT_.out (by kernel_rfl)) (fun _ _ _ h => h) (Or.inl ⟨by rfl, ?_⟩) ?_ ?_
                    rotate_left
                    ·intro w'; go_simp; with_reducible rfl
                    rotate_left
                    ·simp only [Act.put, List.setIfInBounds_toArray, List.set_cons_zero, List.set_cons_succ, zf, zh]; rfl
                    refine qe (i := 35) (N := some 116) (v := ?_) (a' := ?_) #[true, true, true, true, true, true, true, true, true, true, true, true, true, true, true, true, true, true, true, true, true, true, true, true, true, true, true, true, true, true, true, true, true, true, true, true, false, false, false] rfl rfl (zM HT_.out HW_.out (by kernel_rfl)) (fun _ _ _ h => h) (Or.inl ⟨by rfl, ?_⟩) hHeld ?_ ?_
                    rotate_left
                    ·rintro w' ⟨s0, s1, s2, s3, s4, s5⟩; go_simp; with_reducible rfl
                    rotate_left
                    ·simp only [Act.put, List.setIfInBounds_toArray, List.set_cons_zero, List.set_cons_succ, zf, zh]; rfl
                    refine zx (i := 36) (N := some 117) (v := ?_) (a' := ?_) #[true, true, true, true, true, true, true, true, true, true, true, true, true, true, true, true, true, true, true, true, true, true, true, true, true, true, true, true, true, true, true, true, true, true, true, true, true, false, false] rfl rfl (zn HT_.out (by kernel_rfl)) (fun _ _ _ h => h) (Or.inl ⟨by rfl, ?_⟩) ?_ ?_
                    rotate_left
                    ·intro w'; go_simp; with_reducible rfl
                    rotate_left
                    ·simp only [Act.put, List.setIfInBounds_toArray, List.set_cons_zero, List.set_cons_succ, zf, zh]; rfl
                    refine zx (i := 37) (N := some 118) (v := ?_) (a' := ?_) #[true, true, true, true, true, true, true, true, true, true, true, true, true, true, true, true, true, true, true, true, true, true, true, true, true, true, true, true, true, true, true, true, true, true, true, true, true, true, false] rfl rfl (zn HT_.out (by kernel_rfl)) (fun _ _ _ h => h) (Or.inl ⟨by rfl, ?_⟩) ?_ ?_
                    rotate_left
                    ·intro w'; go_simp; with_reducible rfl
                    rotate_left
                    ·simp only [Act.put, List.setIfInBounds_toArray, List.set_cons_zero, List.set_cons_succ, zf, zh]; rfl
                    refine ym (i := 38) (N := none) #[true, true, true, true, true, true, true, true, true, true, true, true, true, true, true, true, true, true, true, true, true, true, true, true, true, true, true, true, true, true, true, true, true, true, true, true, true, true, true] rfl rfl (jr HT_.out (by kernel_rfl)) (by decide) (fun K hK => ?_)
                    refine yj (w1 := ?_) (by rfl) rfl ?_ ?_
                    rotate_left
                    ·go_simp
                     rfl
                    refine hK.out _ _ ?_
                    clear hK K
                    refine vI (jO HT_.out (by kernel_rfl)) ?_
                    try go_wp2
                    (try simp only [← hl148003_3])
                    go_roundg k3
                    case measure => have := HK1.out; have := HK2.out; have := HK3.out; omega
                    case rel => exact ⟨(wrap64 (x10_3 + 1)), (y155), (sqD), H', ⟨by have := HK1.out; have := HK2.out; have := HK3.out; omega⟩, ⟨by (try simp only [hl148003_1]); (try simp only [hl148003_2]); (try simp only [hl148003_3]); refine sqR ?_; exact HQ39.out⟩, ⟨by (try simp only [hl148003_1]); (try simp only [hl148003_2]); (try simp only [hl148003_3]); refine sqK ?_; refine zi ?_ (by have h_ := Kd.qH HO_148003.out BK147.out (by decide); intro e_; exact h_ (by rw [e_]; rfl)) _; refine sqK ?_; exact BK147.out⟩, ⟨by repeat (first | (with_reducible first | exact HK.out | apply Kept.alloc | apply Kept.drewN | apply Kept.drew | refine Kept.setCell ?_ HMgo36.out _ | refine Kept.setCell ?_ (.inr GW147.out) _) | exact HK.out)⟩, ⟨by repeat (first | (with_reducible first | exact HB.out | apply qc | apply z6 | apply zT | refine zO ?_ GB36.out | refine zO ?_ GE147.out) | exact HB.out)⟩⟩
                  ·rw [if_neg c34] at H
                   exact absurd H (by simp)
                 ·rw [if_neg c33] at H
                  exact absurd H (by simp)
                ·rw [if_neg c31] at H
                 exact absurd H (by simp)
               ·rw [if_neg c30] at H
                exact absurd H (by simp)
             ·rw [if_neg c26] at H
              have c26b0 : decide (x10_3 < a0_2) = false := decide_eq_false c26
              clear c26
              have H' := Aside0.mk H
              clear H
              have hcz40_0 : wr.cell? ⟨gb147, 0, none⟩ = some (.int .i64 a0_0) := (zb BK147.out 0).trans rfl
              have hcz40_1 : wr.cell? ⟨gb147, 1, none⟩ = some (.int .i64 a0_1) := (zb BK147.out 1).trans rfl
              have hcz40_2 : wr.cell? ⟨gb147, 2, none⟩ = some (.int .i64 a0_2) := (zb BK147.out 2).trans rfl
              have hcz40_3 : wr.cell? ⟨gb147, 3, none⟩ = some (.slice (some ad148) x148003_3.length co8) := (zb BK147.out 3).trans rfl
              have hfz40_0 := za BK147.out 0; have hfz40_1 := za BK147.out 1; have hfz40_2 := za BK147.out 2; have hfz40_3 := za BK147.out 3
              go_wp2
              (try simp only [← hl148003_2, ← hl148003_3])
              go_roundg k3
              case measure => have := HK1.out; have := HK2.out; have := HK3.out; omega
              case rel => exact ⟨(wrap64 (x8_2 + 1)), (x148003_3), (sqD), H', ⟨by have := HK1.out; have := HK2.out; have := HK3.out; omega⟩, ⟨by (try simp only [hl148003_1]); (try simp only [hl148003_2]); (try simp only [hl148003_3]); refine sqR ?_; exact HO_148003.out⟩, ⟨by (try simp only [hl148003_1]); (try simp only [hl148003_2]); (try simp only [hl148003_3]); refine sqK ?_; exact BK147.out⟩, ⟨by repeat (first | (with_reducible first | exact HK.out | apply Kept.alloc | apply Kept.drewN | apply Kept.drew | refine Kept.setCell ?_ (.inr GW147.out) _) | exact HK.out)⟩, ⟨sqB⟩⟩
          ·rw [if_neg c24] at H
           exact absurd H (by simp)
         ·rw [if_neg c23] at H
          exact absurd H (by simp)
        ·rw [if_neg c21] at H
         have c21b0 : decide (x8_2 < a0_1) = false := decide_eq_false c21
         clear c21
         obtain rfl := Option.some.inj H
         have hcz41_0 : wr.cell? ⟨gb147, 0, none⟩ = some (.int .i64 a0_0) := (zb BK147.out 0).trans rfl
         have hcz41_1 : wr.cell? ⟨gb147, 1, none⟩ = some (.int .i64 a0_1) := (zb BK147.out 1).trans rfl
         have hcz41_2 : wr.cell? ⟨gb147, 2, none⟩ = some (.int .i64 a0_2) := (zb BK147.out 2).trans rfl
         have hcz41_3 : wr.cell? ⟨gb147, 3, none⟩ = some (.slice (some ad148) x148003_2.length co8) := (zb BK147.out 3).trans rfl
         have hfz41_0 := za BK147.out 0; have hfz41_1 := za BK147.out 1; have hfz41_2 := za BK147.out 2; have hfz41_3 := za BK147.out 3
         go_wp2
         first | go_end0 | ((try simp only [Exit.inBlock, Exit.then]); refine bodyPost_ret (results_none rfl _ _ _) rfl ?_)
         exact ⟨by first | rfl | (simp [jo, jq] <;> rfl) | (simp only [← hji4]; first | rfl | (simp [jo, jq] <;> rfl)) | (simp [*, jo, jq] <;> rfl), (by first | exact (sqR HO_148003.out) | (simp only [hl148003_1, hl148003_2]; exact (sqR HO_148003.out))), sqB, by repeat (first | (with_reducible first | exact HK.out | apply Kept.alloc | apply Kept.drewN | apply Kept.drew | refine Kept.setCell ?_ (.inr GW147.out) _) | exact HK.out)⟩
  ·rw [if_neg c6] at H
   exact absurd H (by simp)
 ·rw [if_neg c5] at H
  exact absurd H (by simp)

end Go.Proofs.Ytopkfhnnapncgaa.F
end
section
namespace Go.Proofs.Ytopkfhnnapncgaa.F
open Go.RowKit Go.Proofs.YtopkfhnnapncgaaW.PrintWords Go.Proofs.YtopkfhnnapncgaaW.PrintLast Go.Proofs.YtopkfhnnapncgaaW.PrintMore
attribute [local go_sem] jG jE jY j8 jl jk jK jM   -- for this text's walks alone
set_option linter.unusedVariables false
set_option linter.unusedSimpArgs false

mutual
def zk.l0 : Nat → Int → Int → Int → Int → Int → List Int → Int → Int → Int → List Int → Option (Int × Int × Int × List Int)
 | 0, _, _, _, _, _, _, _, _, _, _ => none
 | k + 1, x4, x5, x157000, x157001, x157002, x157003, x166000, x166001, x166002, x166003 => if x5 < x157002 then (zk.j1 k x4 x5 (decide (x4 < x157001)) x157000 x157001 x157002 x157003 x166000 x166001 x166002 x166003) else (zk.j1 k x4 x5 false x157000 x157001 x157002 x157003 x166000 x166001 x166002 x166003)
def zk.j1 : Nat → Int → Int → Bool → Int → Int → Int → List Int → Int → Int → Int → List Int → Option (Int × Int × Int × List Int)
 | 0, _, _, _, _, _, _, _, _, _, _, _ => none
 | k + 1, x4, x5, x22, x157000, x157001, x157002, x157003, x166000, x166001, x166002, x166003 => if x22 = true then (zk.l1 k x4 x5 x4 x157000 x157001 x157002 x157003 x166000 x166001 x166002 x166003) else ((some (([] : List Int) : List Int)).bind fun y166 => (if 0 ≤ (wrap64 (x4 * x157002)) then (if (wrap64 (x4 * x157002)) ≤ (x166003.length : Int) then ((some (x166003.take ((wrap64 (x4 * x157002)) : Int).toNat : List Int)).bind fun y169 => (if y166.length + y169.length < 17592186044416 then (some (x166000, x4, x166002, (y166 ++ y169))) else (none))) else (none)) else (none)))
def zk.j3 : Nat → Int → Int → Int → Int → Int → Int → List Int → Int → Int → Int → List Int → Option (Int × Int × Int × List Int)
 | 0, _, _, _, _, _, _, _, _, _, _, _ => none
 | k + 1, x4, x5, x6, x157000, x157001, x157002, x157003, x166000, x166001, x166002, x166003 => if x6 = x157001 then (zk.l0 k x4 (wrap64 (x5 + 1)) x157000 x157001 x157002 x157003 x166000 x166001 x166002 x166003) else ((zR.f k x166000 x166001 x166002 x166003 x4 x6).bind fun t177 => ((zl.f k x166000 x166001 x166002 t177 x4 x5).bind fun t178 => (zk.l0 k (wrap64 (x4 + 1)) (wrap64 (x5 + 1)) x157000 x157001 x157002 x157003 x166000 x166001 x166002 t178)))
def zk.l1 : Nat → Int → Int → Int → Int → Int → Int → List Int → Int → Int → Int → List Int → Option (Int × Int × Int × List Int)
 | 0, _, _, _, _, _, _, _, _, _, _, _ => none
 | k + 1, x4, x5, x6, x157000, x157001, x157002, x157003, x166000, x166001, x166002, x166003 => if x6 < x157001 then (if 0 ≤ (wrap64 ((wrap64 (x6 * x157002)) + x5)) then (if (wrap64 ((wrap64 (x6 * x157002)) + x5)) < (x166003.length : Int) then (if (rd x166003 (wrap64 ((wrap64 (x6 * x157002)) + x5))) = 0 then (zk.l1 k x4 x5 (wrap64 (x6 + 1)) x157000 x157001 x157002 x157003 x166000 x166001 x166002 x166003) else (zk.j3 k x4 x5 x6 x157000 x157001 x157002 x157003 x166000 x166001 x166002 x166003)) else (none)) else (none)) else (zk.j3 k x4 x5 x6 x157000 x157001 x157002 x157003 x166000 x166001 x166002 x166003)
end
def zk.f (k : Nat) (a0_0 : Int) (a0_1 : Int) (a0_2 : Int) (l0_3 : List Int) : Option (Int × Int × Int × List Int) := (zq.f k a0_0 a0_1 a0_2 l0_3).bind fun t158 => (if t158 = true then ((qm.f a0_0 a0_1 a0_2 l0_3).bind fun bt159 => (zk.l0 k 0 0 a0_0 a0_1 a0_2 l0_3 bt159.1 bt159.2.1 bt159.2.2.1 bt159.2.2.2)) else (some (0, 0, 0, ([] : List Int))))
theorem zk.calls (k : Nat) (a0_0 : Int) (a0_1 : Int) (a0_2 : Int) (A0_3 : Option Addr) (c0_3 : Nat) (l0_3 : List Int) (r1 : Int) (r2 : Int) (r3 : Int) (r4 : List Int) (w : World) (hr0_3 : Kd.C (Kd.int .i64) w A0_3 l0_3.length l0_3) (hc0_3 : l0_3.length ≤ c0_3) (h : zk.f k a0_0 a0_1 a0_2 l0_3 = some (r1, r2, r3, r4)) :
  Calls Try.prog 32 #[.agg #[.int .i64 a0_0, .int .i64 a0_1, .int .i64 a0_2, .slice A0_3 l0_3.length c0_3]] w fun e w' => ∃ v3_ : Value, e = .returned (.agg #[.int .i64 r1, .int .i64 r2, .int .i64 r3, v3_]) ∧ Kd.R (Kd.int .i64) 3 w' w.heap.size (fun _ => True) v3_ r4 ∧ Below w.heap.size w w' := by
 have hu27 := Try.underlying27
 have HR0_3 := Aside0.mk hr0_3
 have HC0_3 := Aside0.mk hc0_3
 clear hr0_3 hc0_3
 have HB := Aside0.mk (Below.refl w.heap.size w)
 have H : ((zq.f k a0_0 a0_1 a0_2 l0_3).bind fun t158 => (if t158 = true then ((qm.f a0_0 a0_1 a0_2 l0_3).bind fun bt159 => (zk.l0 k 0 0 a0_0 a0_1 a0_2 l0_3 bt159.1 bt159.2.1 bt159.2.2.1 bt159.2.2.2)) else (some (0, 0, 0, ([] : List Int))))) = some (r1, r2, r3, r4) := h
 clear h
 replace H := Option.bind_eq_some_iff.mp H
 obtain ⟨t158, A20, H⟩ := H
 replace H : (if t158 = true then ((qm.f a0_0 a0_1 a0_2 l0_3).bind fun bt159 => (zk.l0 k 0 0 a0_0 a0_1 a0_2 l0_3 bt159.1 bt159.2.1 bt159.2.2.1 bt159.2.2.2)) else (some (0, 0, 0, ([] : List Int)))) = some (r1, r2, r3, r4) := H
 have A2 := Aside0.mk A20
 clear A20
 by_cases c3 : t158 = true
 ·subst c3
  have H1 : ((qm.f a0_0 a0_1 a0_2 l0_3).bind fun bt159 => (zk.l0 k 0 0 a0_0 a0_1 a0_2 l0_3 bt159.1 bt159.2.1 bt159.2.2.1 bt159.2.2.2)) = some (r1, r2, r3, r4) := by rw [if_pos rfl] at H; exact H
  clear H
  have H := H1
  clear H1
  replace H := Option.bind_eq_some_iff.mp H
  obtain ⟨⟨t159, t160, t161, t162⟩, A40, H⟩ := H
  replace H : (zk.l0 k 0 0 a0_0 a0_1 a0_2 l0_3 t159 t160 t161 t162) = some (r1, r2, r3, r4) := H
  have A4 := Aside0.mk A40
  clear A40
  have H' := Aside0.mk H
  clear H
  go_enter Try.func32, Try.ntmps32
  go_wp2_with (first | ((with_reducible refine zC (N := 1) rfl ?_); refine zD ?hg (N := 1) ?hd (cs := #[.int .i64 a0_0, .int .i64 a0_1, .int .i64 a0_2, .slice A0_3 l0_3.length c0_3]) (t := 27) ?hr ?_; (case hd => rfl); (case hg => rfl); (case hr => exact sqG); intro gb156 hg w5 hbox hb; have n0_ := Aside0.mk (zg sqB hb); have n1_ := Aside0.mk (hbox); have n2_ := Aside0.mk ((sqS hg : w.heap.size ≤ gb156)); have n3_ := Aside0.mk ((sqS hg : w.heap.size ≤ gb156)); clear HB; have HB := n0_; have BK156 := n1_; have GW156 := n2_; have GE156 := n3_; clear n0_ n1_ n2_ n3_; clear hb hbox hg) | ((with_reducible refine zC (N := 2) rfl ?_); refine zD ?hg (N := 2) ?hd (cs := #[.int .i64 0, .int .i64 0, .int .i64 0, .slice none 0 0]) (t := 27) ?hr ?_; (case hd => rfl); (case hg => rfl); (case hr => exact sqG); intro gb157 hg w6 hbox hb; have n0_ := Aside0.mk (ze (g := gb156) (o := .cells #[.int .i64 a0_0, .int .i64 a0_1, .int .i64 a0_2, .slice A0_3 l0_3.length c0_3] 27 (0, 0)) (sqK BK156.out) hb); have n1_ := Aside0.mk (zg sqB hb); have n2_ := Aside0.mk (hbox); have n3_ := Aside0.mk ((sqS hg : w.heap.size ≤ gb157)); have n4_ := Aside0.mk ((sqS hg : w.heap.size ≤ gb157)); have n5_ := Aside0.mk ((by rw [hg]; exact Nat.ne_of_lt (zI (g := gb156) (o := .cells #[.int .i64 a0_0, .int .i64 a0_1, .int .i64 a0_2, .slice A0_3 l0_3.length c0_3] 27 (0, 0)) (sqK BK156.out)) : gb156 ≠ gb157)); have n6_ := Aside0.mk ((by rw [hg]; exact Nat.ne_of_gt (zI (g := gb156) (o := .cells #[.int .i64 a0_0, .int .i64 a0_1, .int .i64 a0_2, .slice A0_3 l0_3.length c0_3] 27 (0, 0)) (sqK BK156.out)) : gb157 ≠ gb156)); clear BK156; clear HB; have BK156 := n0_; have HB := n1_; have BK157 := n2_; have GW157 := n3_; have GE157 := n4_; have NB156_157 := n5_; have NB157_156 := n6_; clear n0_ n1_ n2_ n3_ n4_ n5_ n6_; clear hb hbox hg; have hnb7 := NB156_157.out; have hnc7 := NB157_156.out; have hcz8_0 : w6.cell? ⟨gb156, 0, none⟩ = some (.int .i64 a0_0) := (zb BK156.out 0).trans rfl; have hcz8_1 : w6.cell? ⟨gb156, 1, none⟩ = some (.int .i64 a0_1) := (zb BK156.out 1).trans rfl; have hcz8_2 : w6.cell? ⟨gb156, 2, none⟩ = some (.int .i64 a0_2) := (zb BK156.out 2).trans rfl; have hcz8_3 : w6.cell? ⟨gb156, 3, none⟩ = some (.slice A0_3 l0_3.length c0_3) := (zb BK156.out 3).trans rfl; have hfz8_0 := za BK156.out 0; have hfz8_1 := za BK156.out 1; have hfz8_2 := za BK156.out 2; have hfz8_3 := za BK156.out 3) | ((with_reducible refine zp (f := 37) rfl ?_); refine zP (some 8) rfl rfl Try.func37 (by kernel_rfl) rfl #[.agg #[.int .i64 a0_0, .int .i64 a0_1, .int .i64 a0_2, .slice A0_3 l0_3.length c0_3]] rfl sqM ?_; (with_reducible refine (zq.calls k a0_0 a0_1 a0_2 _ _ l0_3 true _ ?side1 ?side2 A2.out).mono ?_); (case side1 => exact sqC (Kd.z1 HR0_3.out HB.out)); (case side2 => exact HC0_3.out); rintro e w9 ⟨rfl, hb⟩; refine ⟨_, rfl, ?_⟩; have n0_ := Aside0.mk (ze (g := gb156) (o := .cells #[.int .i64 a0_0, .int .i64 a0_1, .int .i64 a0_2, .slice A0_3 l0_3.length c0_3] 27 (0, 0)) (sqK BK156.out) hb); have n1_ := Aside0.mk (ze (g := gb157) (o := .cells #[.int .i64 0, .int .i64 0, .int .i64 0, .slice none 0 0] 27 (0, 0)) (sqK BK157.out) hb); have n2_ := Aside0.mk (zg sqB hb); clear BK156; clear BK157; clear HB; have BK156 := n0_; have BK157 := n1_; have HB := n2_; clear n0_ n1_ n2_; (try clear hb); (try clear hb2); (try clear hk); (try clear hi); have hcz10_0 : w9.cell? ⟨gb156, 0, none⟩ = some (.int .i64 a0_0) := (zb BK156.out 0).trans rfl; have hcz10_1 : w9.cell? ⟨gb156, 1, none⟩ = some (.int .i64 a0_1) := (zb BK156.out 1).trans rfl; have hcz10_2 : w9.cell? ⟨gb156, 2, none⟩ = some (.int .i64 a0_2) := (zb BK156.out 2).trans rfl; have hcz10_3 : w9.cell? ⟨gb156, 3, none⟩ = some (.slice A0_3 l0_3.length c0_3) := (zb BK156.out 3).trans rfl; have hfz10_0 := za BK156.out 0; have hfz10_1 := za BK156.out 1; have hfz10_2 := za BK156.out 2; have hfz10_3 := za BK156.out 3) | ((with_reducible refine zp (f := 60) rfl ?_); refine zP (some 12) rfl rfl Try.func60 (by kernel_rfl) rfl #[.agg #[.int .i64 a0_0, .int .i64 a0_1, .int .i64 a0_2, .slice A0_3 l0_3.length c0_3]] rfl sqM ?_; (with_reducible refine (qm.calls a0_0 a0_1 a0_2 _ _ l0_3 t159 t160 t161 t162 _ ?side1 ?side2 A4.out).mono ?_); (case side1 => exact sqC (Kd.z1 HR0_3.out HB.out)); (case side2 => exact HC0_3.out); rintro e w11 ⟨v163, rfl, ho0, hb⟩; refine ⟨_, rfl, ?_⟩; have n0_ := Aside0.mk (Kd.qo ho0 (zJ sqB)); have n1_ := Aside0.mk (ze (g := gb156) (o := .cells #[.int .i64 a0_0, .int .i64 a0_1, .int .i64 a0_2, .slice A0_3 l0_3.length c0_3] 27 (0, 0)) (sqK BK156.out) hb); have n2_ := Aside0.mk (ze (g := gb157) (o := .cells #[.int .i64 0, .int .i64 0, .int .i64 0, .slice none 0 0] 27 (0, 0)) (sqK BK157.out) hb); have n3_ := Aside0.mk (zg sqB hb); clear BK156; clear BK157; clear HB; have HO164 := n0_; have BK156 := n1_; have BK157 := n2_; have HB := n3_; clear n0_ n1_ n2_ n3_; (try clear hb); (try clear hb2); (try clear hk); (try clear hi); (try clear ho0)) | ((with_reducible refine zC (N := 3) rfl ?_); refine zD ?hg (N := 3) ?hd (cs := #[.int .i64 0, .int .i64 0, .int .i64 0, .slice none 0 0]) (t := 27) ?hr ?_; (case hd => rfl); (case hg => rfl); (case hr => exact sqG); intro gb165 hg w12 hbox hb; have n0_ := Aside0.mk (Kd.zG (sqR HO164.out) hb); have n1_ := Aside0.mk (ze (g := gb156) (o := .cells #[.int .i64 a0_0, .int .i64 a0_1, .int .i64 a0_2, .slice A0_3 l0_3.length c0_3] 27 (0, 0)) (sqK BK156.out) hb); have n2_ := Aside0.mk (ze (g := gb157) (o := .cells #[.int .i64 0, .int .i64 0, .int .i64 0, .slice none 0 0] 27 (0, 0)) (sqK BK157.out) hb); have n3_ := Aside0.mk (zg sqB hb); have n4_ := Aside0.mk (hbox); have n5_ := Aside0.mk ((sqS hg : w.heap.size ≤ gb165)); have n6_ := Aside0.mk ((sqS hg : w.heap.size ≤ gb165)); have n7_ := Aside0.mk ((by rw [hg]; exact Nat.ne_of_lt (zI (g := gb156) (o := .cells #[.int .i64 a0_0, .int .i64 a0_1, .int .i64 a0_2, .slice A0_3 l0_3.length c0_3] 27 (0, 0)) (sqK BK156.out)) : gb156 ≠ gb165)); have n8_ := Aside0.mk ((by rw [hg]; exact Nat.ne_of_gt (zI (g := gb156) (o := .cells #[.int .i64 a0_0, .int .i64 a0_1, .int .i64 a0_2, .slice A0_3 l0_3.length c0_3] 27 (0, 0)) (sqK BK156.out)) : gb165 ≠ gb156)); have n9_ := Aside0.mk ((by rw [hg]; exact Nat.ne_of_lt (zI (g := gb157) (o := .cells #[.int .i64 0, .int .i64 0, .int .i64 0, .slice none 0 0] 27 (0, 0)) (sqK BK157.out)) : gb157 ≠ gb165)); have n10_ := Aside0.mk ((by rw [hg]; exact Nat.ne_of_gt (zI (g := gb157) (o := .cells #[.int .i64 0, .int .i64 0, .int .i64 0, .slice none 0 0] 27 (0, 0)) (sqK BK157.out)) : gb165 ≠ gb157)); clear HO164; clear BK156; clear BK157; clear HB; have HO164 := n0_; have BK156 := n1_; have BK157 := n2_; have HB := n3_; have BK165 := n4_; have GW165 := n5_; have GE165 := n6_; have NB156_165 := n7_; have NB165_156 := n8_; have NB157_165 := n9_; have NB165_157 := n10_; clear n0_ n1_ n2_ n3_ n4_ n5_ n6_ n7_ n8_ n9_ n10_; clear hb hbox hg; have hnb13 := NB165_156.out; have hnc13 := NB156_165.out; have hnb14 := NB165_157.out; have hnc14 := NB157_165.out; have hcz15_0 : w12.cell? ⟨gb165, 0, none⟩ = some (.int .i64 0) := (zb BK165.out 0).trans rfl; have hcz15_1 : w12.cell? ⟨gb165, 1, none⟩ = some (.int .i64 0) := (zb BK165.out 1).trans rfl; have hcz15_2 : w12.cell? ⟨gb165, 2, none⟩ = some (.int .i64 0) := (zb BK165.out 2).trans rfl; have hcz15_3 : w12.cell? ⟨gb165, 3, none⟩ = some (.slice none 0 0) := (zb BK165.out 3).trans rfl; have hfz15_0 := za BK165.out 0; have hfz15_1 := za BK165.out 1; have hfz15_2 := za BK165.out 2; have hfz15_3 := za BK165.out 3; obtain ⟨Ao16, co16, eo16⟩ := Kd.zU HO164.out; subst eo16))
  go_loopg [4, 5] k (fun kq v4 v5 w' => ∃ (x4_1 : Int) (x5_1 : Int) (x166003_1 : List Int) (u166003 : Value), v4 = .int .i64 x4_1 ∧ v5 = .int .i64 x5_1 ∧ Aside0 (zk.l0 kq x4_1 x5_1 a0_0 a0_1 a0_2 l0_3 t159 t160 t161 x166003_1 = some (r1, r2, r3, r4)) ∧ Aside0 (kq ≤ k) ∧ Aside0 (Kd.R (Kd.int .i64) 3 w' w.heap.size (fun _ => True) u166003 x166003_1) ∧ Aside0 (w'.heap[gb156]? = some (.cells #[.int .i64 a0_0, .int .i64 a0_1, .int .i64 a0_2, (.slice A0_3 l0_3.length c0_3)] 27 (0, 0))) ∧ Aside0 (w'.heap[gb157]? = some (.cells #[.int .i64 0, .int .i64 0, .int .i64 0, (.slice none 0 0)] 27 (0, 0))) ∧ Aside0 (w'.heap[gb165]? = some (.cells #[.int .i64 t159, .int .i64 t160, .int .i64 t161, u166003] 27 (0, 0))) ∧ Aside0 (Below w.heap.size w w'))
  case atStart => exact ⟨(0), (0), (t162), (.slice Ao16 t162.length co16), (sqD), (sqD), H', ⟨Nat.le_refl _⟩, ⟨by refine sqR ?_; exact Kd.zo (Kd.zj (p := ⟨gb165, 3, none⟩) (Kd.zj (p := ⟨gb165, 2, none⟩) (Kd.zj (p := ⟨gb165, 1, none⟩) (Kd.zj (p := ⟨gb165, 0, none⟩) (Kd.zF HO164.out BK165.out (by decide)) (fun _ hk => hk.2) (.int .i64 t159)) (fun _ hk => hk.2) (.int .i64 t160)) (fun _ hk => hk.2) (.int .i64 t161)) (fun _ hk => hk.2) (.slice Ao16 t162.length co16)) (fun _ hk => trivial)⟩, ⟨by refine sqK ?_; refine zi ?_ NB156_165.out _; refine sqK ?_; refine zi ?_ NB156_165.out _; refine sqK ?_; refine zi ?_ NB156_165.out _; refine sqK ?_; refine zi ?_ NB156_165.out _; refine sqK ?_; exact BK156.out⟩, ⟨by refine sqK ?_; refine zi ?_ NB157_165.out _; refine sqK ?_; refine zi ?_ NB157_165.out _; refine sqK ?_; refine zi ?_ NB157_165.out _; refine sqK ?_; refine zi ?_ NB157_165.out _; refine sqK ?_; exact BK157.out⟩, ⟨by refine sqK ?_; refine zy (cs := #[.int .i64 t159, .int .i64 t160, .int .i64 t161, .slice none 0 0]) ?_ 3 _ rfl; refine sqK ?_; refine zy (cs := #[.int .i64 t159, .int .i64 t160, .int .i64 0, .slice none 0 0]) ?_ 2 _ rfl; refine sqK ?_; refine zy (cs := #[.int .i64 t159, .int .i64 0, .int .i64 0, .slice none 0 0]) ?_ 1 _ rfl; refine sqK ?_; refine zy (cs := #[.int .i64 0, .int .i64 0, .int .i64 0, .slice none 0 0]) ?_ 0 _ rfl; refine sqK ?_; exact BK165.out⟩, ⟨sqB⟩⟩
  case round =>
   clear H'
   try clear c1
   try clear p2
   try clear c3
   try clear c6
   try clear c7
   try clear c13
   try clear c14
   try clear hcz10_0
   try clear hcz10_1
   try clear hcz10_2
   try clear hcz10_3
   try clear hcz15_0
   try clear hcz15_1
   try clear hcz15_2
   try clear hcz15_3
   try clear hcz8_0
   try clear hcz8_1
   try clear hcz8_2
   try clear hcz8_3
   try clear hfz10_0
   try clear hfz10_1
   try clear hfz10_2
   try clear hfz10_3
   try clear hfz15_0
   try clear hfz15_1
   try clear hfz15_2
   try clear hfz15_3
   try clear hfz8_0
   try clear hfz8_1
   try clear hfz8_2
   try clear hfz8_3
   obtain ⟨x4_1, x5_1, x166003_1, u166003, rfl, rfl, HA, HK1, HO_166003, BK156, BK157, BK165, HB⟩ := hrel
   cases gk with
   | zero => exact absurd HA.out (by simp [zk.l0])
   | succ k1 =>
    have H := HA.out
    clear HA
    simp only [zk.l0] at H
    have HC17 := Aside0.mk H
    clear H
    go_upto_region 6 with (fail)
    go_cut [22] (fun v22 wc => ∃ (kq : Nat) (x22_16 : Bool), v22 = .bool x22_16 ∧ Aside0 (zk.j1 kq x4_1 x5_1 x22_16 a0_0 a0_1 a0_2 l0_3 t159 t160 t161 x166003_1 = some (r1, r2, r3, r4)) ∧ Aside0 (kq ≤ k1) ∧ Aside0 (Kd.R (Kd.int .i64) 3 wc w.heap.size (fun _ => True) u166003 x166003_1) ∧ Aside0 (wc.heap[gb156]? = some (.cells #[.int .i64 a0_0, .int .i64 a0_1, .int .i64 a0_2, (.slice A0_3 l0_3.length c0_3)] 27 (0, 0))) ∧ Aside0 (wc.heap[gb157]? = some (.cells #[.int .i64 0, .int .i64 0, .int .i64 0, (.slice none 0 0)] 27 (0, 0))) ∧ Aside0 (wc.heap[gb165]? = some (.cells #[.int .i64 t159, .int .i64 t160, .int .i64 t161, u166003] 27 (0, 0))) ∧ Aside0 (Below w.heap.size w wc))
    case first =>
     have H := HC17.out
     clear HC17
     by_cases c18 : x5_1 < a0_2
     ·rw [if_pos c18] at H
      have c18b0 : decide (x5_1 < a0_2) = true := decide_eq_true c18
      clear c18
      (first | rw [c18b0] | (simp only [zf, zh]; rw [c18b0]) | skip)
      have H' := Aside0.mk H
      clear H
      have hnb19 := NB156_157.out
      have hnc19 := NB157_156.out
      have hnb20 := NB156_165.out
      have hnc20 := NB165_156.out
      have hcz21_0 : wr.cell? ⟨gb156, 0, none⟩ = some (.int .i64 a0_0) := (zb BK156.out 0).trans rfl
      have hcz21_1 : wr.cell? ⟨gb156, 1, none⟩ = some (.int .i64 a0_1) := (zb BK156.out 1).trans rfl
      have hcz21_2 : wr.cell? ⟨gb156, 2, none⟩ = some (.int .i64 a0_2) := (zb BK156.out 2).trans rfl
      have hcz21_3 : wr.cell? ⟨gb156, 3, none⟩ = some (.slice A0_3 l0_3.length c0_3) := (zb BK156.out 3).trans rfl
      have hfz21_0 := za BK156.out 0; have hfz21_1 := za BK156.out 1; have hfz21_2 := za BK156.out 2; have hfz21_3 := za BK156.out 3
      go_wp2
      go_meet
      case rel => exact ⟨_, (decide (x4_1 < a0_1)), (sqD), H', ⟨by have := HK1.out; first | omega | exact Nat.le_refl _⟩, ⟨sqR HO_166003.out⟩, ⟨sqK BK156.out⟩, ⟨sqK BK157.out⟩, ⟨sqK BK165.out⟩, ⟨sqB⟩⟩
     ·rw [if_neg c18] at H
      have c18b0 : decide (x5_1 < a0_2) = false := decide_eq_false c18
      clear c18
      (first | rw [c18b0] | (simp only [zf, zh]; rw [c18b0]) | skip)
      have H' := Aside0.mk H
      clear H
      have hnb22 := NB156_157.out
      have hnc22 := NB157_156.out
      have hnb23 := NB156_165.out
      have hnc23 := NB165_156.out
      have hcz24_0 : wr.cell? ⟨gb156, 0, none⟩ = some (.int .i64 a0_0) := (zb BK156.out 0).trans rfl
      have hcz24_1 : wr.cell? ⟨gb156, 1, none⟩ = some (.int .i64 a0_1) := (zb BK156.out 1).trans rfl
      have hcz24_2 : wr.cell? ⟨gb156, 2, none⟩ = some (.int .i64 a0_2) := (zb BK156.out 2).trans rfl
      have hcz24_3 : wr.cell? ⟨gb156, 3, none⟩ = some (.slice A0_3 l0_3.length c0_3) := (zb BK156.out 3).trans rfl
      have hfz24_0 := za BK156.out 0; have hfz24_1 := za BK156.out 1; have hfz24_2 := za BK156.out 2; have hfz24_3 := za BK156.out 3
      go_wp2
      go_meet
      case rel => exact ⟨_, (false), (sqD), H', ⟨by have := HK1.out; first | omega | exact Nat.le_refl _⟩, ⟨sqR HO_166003.out⟩, ⟨sqK BK156.out⟩, ⟨sqK BK157.out⟩, ⟨sqK BK165.out⟩, ⟨sqB⟩⟩
    case rest =>
     clear HC17
     try clear c1
     try clear c2
     try clear p2
     try clear c3
     try clear c6
     try clear c7
     try clear c13
     try clear c14
     try clear c18
     try clear c18b0
     try clear c19
     try clear c20
     try clear c22
     try clear c23
     try clear hcz10_0
     try clear hcz10_1
     try clear hcz10_2
     try clear hcz10_3
     try clear hcz15_0
     try clear hcz15_1
     try clear hcz15_2
     try clear hcz15_3
     try clear hcz21_0
     try clear hcz21_1
     try clear hcz21_2
     try clear hcz21_3
     try clear hcz24_0
     try clear hcz24_1
     try clear hcz24_2
     try clear hcz24_3
     try clear hcz8_0
     try clear hcz8_1
     try clear hcz8_2
     try clear hcz8_3
     try clear hfz10_0
     try clear hfz10_1
     try clear hfz10_2
     try clear hfz10_3
     try clear hfz15_0
     try clear hfz15_1
     try clear hfz15_2
     try clear hfz15_3
     try clear hfz21_0
     try clear hfz21_1
     try clear hfz21_2
     try clear hfz21_3
     try clear hfz24_0
     try clear hfz24_1
     try clear hfz24_2
     try clear hfz24_3
     try clear hfz8_0
     try clear hfz8_1
     try clear hfz8_2
     try clear hfz8_3
     try clear p2
     obtain ⟨kq, x22_16, rfl, HA, HJ16, HO_166003, BK156, BK157, BK165, HB⟩ := hcut
     cases kq with
     | zero => exact absurd HA.out (by simp [zk.j1])
     | succ kj16 =>
      have H := HA.out
      clear HA
      simp only [zk.j1] at H
      by_cases c25 : x22_16 = true
      ·subst c25
       have H1 : (zk.l1 kj16 x4_1 x5_1 x4_1 a0_0 a0_1 a0_2 l0_3 t159 t160 t161 x166003_1) = some (r1, r2, r3, r4) := by rw [if_pos rfl] at H; exact H
       clear H
       have H := H1
       clear H1
       have HC26 := Aside0.mk H
       clear H
       go_upto_block 2 with (fail)
       go_cut [6] (fun v6 wc => ∃ (kq : Nat) (x6_25 : Int), v6 = .int .i64 x6_25 ∧ Aside0 (zk.j3 kq x4_1 x5_1 x6_25 a0_0 a0_1 a0_2 l0_3 t159 t160 t161 x166003_1 = some (r1, r2, r3, r4)) ∧ Aside0 (kq ≤ kj16) ∧ Aside0 (Kd.R (Kd.int .i64) 3 wc w.heap.size (fun _ => True) u166003 x166003_1) ∧ Aside0 (wc.heap[gb156]? = some (.cells #[.int .i64 a0_0, .int .i64 a0_1, .int .i64 a0_2, (.slice A0_3 l0_3.length c0_3)] 27 (0, 0))) ∧ Aside0 (wc.heap[gb157]? = some (.cells #[.int .i64 0, .int .i64 0, .int .i64 0, (.slice none 0 0)] 27 (0, 0))) ∧ Aside0 (wc.heap[gb165]? = some (.cells #[.int .i64 t159, .int .i64 t160, .int .i64 t161, u166003] 27 (0, 0))) ∧ Aside0 (Below w.heap.size w wc))
       case first =>
        have H := HC26.out
        clear HC26
        have H' := Aside0.mk H
        clear H
        go_wp2
        go_loopg [6] kj16 (fun kq v6 w' => ∃ (x6_3 : Int), v6 = .int .i64 x6_3 ∧ Aside0 (zk.l1 kq x4_1 x5_1 x6_3 a0_0 a0_1 a0_2 l0_3 t159 t160 t161 x166003_1 = some (r1, r2, r3, r4)) ∧ Aside0 (kq ≤ kj16) ∧ Aside0 (Kd.R (Kd.int .i64) 3 w' w.heap.size (fun _ => True) u166003 x166003_1) ∧ Aside0 (w'.heap[gb156]? = some (.cells #[.int .i64 a0_0, .int .i64 a0_1, .int .i64 a0_2, (.slice A0_3 l0_3.length c0_3)] 27 (0, 0))) ∧ Aside0 (w'.heap[gb157]? = some (.cells #[.int .i64 0, .int .i64 0, .int .i64 0, (.slice none 0 0)] 27 (0, 0))) ∧ Aside0 (w'.heap[gb165]? = some (.cells #[.int .i64 t159, .int .i64 t160, .int .i64 t161, u166003] 27 (0, 0))) ∧ Aside0 (Below w.heap.size w w'))
        case atStart => exact ⟨(x4_1), (sqD), H', ⟨Nat.le_refl _⟩, ⟨sqR HO_166003.out⟩, ⟨sqK BK156.out⟩, ⟨sqK BK157.out⟩, ⟨sqK BK165.out⟩, ⟨sqB⟩⟩
        case round =>
         clear H'
         try clear c1
         try clear c2
         try clear p2
         try clear c3
         try clear c6
         try clear c7
         try clear c13
         try clear c14
         try clear c18
         try clear c18b0
         try clear c19
         try clear c20
         try clear c22
         try clear c23
         try clear c25
         try clear hcz10_0
         try clear hcz10_1
         try clear hcz10_2
         try clear hcz10_3
         try clear hcz15_0
         try clear hcz15_1
         try clear hcz15_2
         try clear hcz15_3
         try clear hcz21_0
         try clear hcz21_1
         try clear hcz21_2
         try clear hcz21_3
         try clear hcz24_0
         try clear hcz24_1
         try clear hcz24_2
         try clear hcz24_3
         try clear hcz8_0
         try clear hcz8_1
         try clear hcz8_2
         try clear hcz8_3
         try clear hfz10_0
         try clear hfz10_1
         try clear hfz10_2
         try clear hfz10_3
         try clear hfz15_0
         try clear hfz15_1
         try clear hfz15_2
         try clear hfz15_3
         try clear hfz21_0
         try clear hfz21_1
         try clear hfz21_2
         try clear hfz21_3
         try clear hfz24_0
         try clear hfz24_1
         try clear hfz24_2
         try clear hfz24_3
         try clear hfz8_0
         try clear hfz8_1
         try clear hfz8_2
         try clear hfz8_3
         try clear p2
         obtain ⟨x6_3, rfl, HA, HK3, HO_166003, BK156, BK157, BK165, HB⟩ := hrel
         cases gk with
         | zero => exact absurd HA.out (by simp [zk.l1])
         | succ k3 =>
          have H := HA.out
          clear HA
          simp only [zk.l1] at H
          by_cases c27 : x6_3 < a0_1
          ·rw [if_pos c27] at H
           have c27b0 : decide (x6_3 < a0_1) = true := decide_eq_true c27
           clear c27
           (first | rw [c27b0] | (simp only [zf, zh]; rw [c27b0]) | skip)
           obtain ⟨ji28, hji28⟩ : ∃ j_ : Int, (wrap64 ((wrap64 (x6_3 * a0_2)) + x5_1)) = j_ := ⟨_, rfl⟩
           replace H : (if 0 ≤ (ji28) then (if (ji28) < (x166003_1.length : Int) then (if (rd x166003_1 (ji28)) = 0 then (zk.l1 k3 x4_1 x5_1 (wrap64 (x6_3 + 1)) a0_0 a0_1 a0_2 l0_3 t159 t160 t161 x166003_1) else (zk.j3 k3 x4_1 x5_1 x6_3 a0_0 a0_1 a0_2 l0_3 t159 t160 t161 x166003_1)) else (none)) else (none)) = some (r1, r2, r3, r4) := by first | (rw [hji28] at H; exact H) | (simp only [hji28] at H ⊢; exact H)
           have hji28w : (IntKind.i64.wrap ((wrap64 (x6_3 * a0_2)) + x5_1)) = ji28 := (zf _).trans hji28
           by_cases c29 : 0 ≤ (ji28)
           ·rw [if_pos c29] at H
            have c29b0 : decide (0 ≤ (ji28)) = true := decide_eq_true c29
            clear c29
            by_cases c30 : (ji28) < (x166003_1.length : Int)
            ·rw [if_pos c30] at H
             have c30b0 : decide ((ji28) < (x166003_1.length : Int)) = true := decide_eq_true c30
             clear c30
             by_cases c31 : (rd x166003_1 (ji28)) = 0
             ·rw [if_pos c31] at H
              have c31b0 : ((rd x166003_1 (ji28)) == 0) = true := beq_iff_eq.mpr c31
              have c31b1 : ((rd x166003_1 (ji28)) != 0) = false := bne_eq_false_iff_eq.mpr c31
              clear c31
              have H' := Aside0.mk H
              clear H
              have hnb32 := NB156_157.out
              have hnc32 := NB157_156.out
              have hnb33 := NB156_165.out
              have hnc33 := NB165_156.out
              have hcz34_0 : wr.cell? ⟨gb156, 0, none⟩ = some (.int .i64 a0_0) := (zb BK156.out 0).trans rfl
              have hcz34_1 : wr.cell? ⟨gb156, 1, none⟩ = some (.int .i64 a0_1) := (zb BK156.out 1).trans rfl
              have hcz34_2 : wr.cell? ⟨gb156, 2, none⟩ = some (.int .i64 a0_2) := (zb BK156.out 2).trans rfl
              have hcz34_3 : wr.cell? ⟨gb156, 3, none⟩ = some (.slice A0_3 l0_3.length c0_3) := (zb BK156.out 3).trans rfl
              have hfz34_0 := za BK156.out 0; have hfz34_1 := za BK156.out 1; have hfz34_2 := za BK156.out 2; have hfz34_3 := za BK156.out 3
              have hnb35 := NB165_157.out
              have hnc35 := NB157_165.out
              have hcz36_0 : wr.cell? ⟨gb165, 0, none⟩ = some (.int .i64 t159) := (zb BK165.out 0).trans rfl
              have hcz36_1 : wr.cell? ⟨gb165, 1, none⟩ = some (.int .i64 t160) := (zb BK165.out 1).trans rfl
              have hcz36_2 : wr.cell? ⟨gb165, 2, none⟩ = some (.int .i64 t161) := (zb BK165.out 2).trans rfl
              have hcz36_3 : wr.cell? ⟨gb165, 3, none⟩ = some (u166003) := (zb BK165.out 3).trans rfl
              have hfz36_0 := za BK165.out 0; have hfz36_1 := za BK165.out 1; have hfz36_2 := za BK165.out 2; have hfz36_3 := za BK165.out 3
              obtain ⟨Ao37, co37, eo37⟩ := Kd.zU HO_166003.out
              subst eo37
              have p176 : 0 ≤ ((ji28) : Int) := of_decide_eq_true sqA
              have q176 : (ji28) < (x166003_1.length : Int) := of_decide_eq_true sqA
              obtain ⟨ad176, e176, hx176_0⟩ := Kd.qh (Kd.zu HO_166003.out).2.2 (ji28) p176 q176
              cases e176
              replace p176 := eq_true p176
              replace q176 := eq_true q176
              go_wp2
              go_roundg k3
              case measure => have := HK1.out; have := HJ16.out; have := HK3.out; omega
              case rel => exact ⟨(wrap64 (x6_3 + 1)), (sqD), H', ⟨by have := HK1.out; have := HJ16.out; have := HK3.out; omega⟩, ⟨sqR HO_166003.out⟩, ⟨sqK BK156.out⟩, ⟨sqK BK157.out⟩, ⟨sqK BK165.out⟩, ⟨sqB⟩⟩
             ·rw [if_neg c31] at H
              have c31b0 : ((rd x166003_1 (ji28)) == 0) = false := beq_eq_false_iff_ne.mpr c31
              have c31b1 : ((rd x166003_1 (ji28)) != 0) = true := bne_iff_ne.mpr c31
              have H' := Aside0.mk H
              clear H
              have hnb38 := NB156_157.out
              have hnc38 := NB157_156.out
              have hnb39 := NB156_165.out
              have hnc39 := NB165_156.out
              have hcz40_0 : wr.cell? ⟨gb156, 0, none⟩ = some (.int .i64 a0_0) := (zb BK156.out 0).trans rfl
              have hcz40_1 : wr.cell? ⟨gb156, 1, none⟩ = some (.int .i64 a0_1) := (zb BK156.out 1).trans rfl
              have hcz40_2 : wr.cell? ⟨gb156, 2, none⟩ = some (.int .i64 a0_2) := (zb BK156.out 2).trans rfl
              have hcz40_3 : wr.cell? ⟨gb156, 3, none⟩ = some (.slice A0_3 l0_3.length c0_3) := (zb BK156.out 3).trans rfl
              have hfz40_0 := za BK156.out 0; have hfz40_1 := za BK156.out 1; have hfz40_2 := za BK156.out 2; have hfz40_3 := za BK156.out 3
              have hnb41 := NB165_157.out
              have hnc41 := NB157_165.out
              have hcz42_0 : wr.cell? ⟨gb165, 0, none⟩ = some (.int .i64 t159) := (zb BK165.out 0).trans rfl
              have hcz42_1 : wr.cell? ⟨gb165, 1, none⟩ = some (.int .i64 t160) := (zb BK165.out 1).trans rfl
              have hcz42_2 : wr.cell? ⟨gb165, 2, none⟩ = some (.int .i64 t161) := (zb BK165.out 2).trans rfl
              have hcz42_3 : wr.cell? ⟨gb165, 3, none⟩ = some (u166003) := (zb BK165.out 3).trans rfl
              have hfz42_0 := za BK165.out 0; have hfz42_1 := za BK165.out 1; have hfz42_2 := za BK165.out 2; have hfz42_3 := za BK165.out 3
              obtain ⟨Ao43, co43, eo43⟩ := Kd.zU HO_166003.out
              subst eo43
              have p176 : 0 ≤ ((ji28) : Int) := of_decide_eq_true sqA
              have q176 : (ji28) < (x166003_1.length : Int) := of_decide_eq_true sqA
              obtain ⟨ad176, e176, hx176_0⟩ := Kd.qh (Kd.zu HO_166003.out).2.2 (ji28) p176 q176
              cases e176
              replace p176 := eq_true p176
              replace q176 := eq_true q176
              go_wp2
              go_meet
              case rel => exact ⟨_, (x6_3), (sqD), H', ⟨by have := HK1.out; have := HJ16.out; have := HK3.out; first | omega | exact Nat.le_refl _⟩, ⟨sqR HO_166003.out⟩, ⟨sqK BK156.out⟩, ⟨sqK BK157.out⟩, ⟨sqK BK165.out⟩, ⟨sqB⟩⟩
            ·rw [if_neg c30] at H
             exact absurd H (by simp)
           ·rw [if_neg c29] at H
            exact absurd H (by simp)
          ·rw [if_neg c27] at H
           have c27b0 : decide (x6_3 < a0_1) = false := decide_eq_false c27
           clear c27
           (first | rw [c27b0] | (simp only [zf, zh]; rw [c27b0]) | skip)
           have H' := Aside0.mk H
           clear H
           have hnb44 := NB156_157.out
           have hnc44 := NB157_156.out
           have hnb45 := NB156_165.out
           have hnc45 := NB165_156.out
           have hcz46_0 : wr.cell? ⟨gb156, 0, none⟩ = some (.int .i64 a0_0) := (zb BK156.out 0).trans rfl
           have hcz46_1 : wr.cell? ⟨gb156, 1, none⟩ = some (.int .i64 a0_1) := (zb BK156.out 1).trans rfl
           have hcz46_2 : wr.cell? ⟨gb156, 2, none⟩ = some (.int .i64 a0_2) := (zb BK156.out 2).trans rfl
           have hcz46_3 : wr.cell? ⟨gb156, 3, none⟩ = some (.slice A0_3 l0_3.length c0_3) := (zb BK156.out 3).trans rfl
           have hfz46_0 := za BK156.out 0; have hfz46_1 := za BK156.out 1; have hfz46_2 := za BK156.out 2; have hfz46_3 := za BK156.out 3
           go_wp2
           go_meet
           case rel => exact ⟨_, (x6_3), (sqD), H', ⟨by have := HK1.out; have := HJ16.out; have := HK3.out; first | omega | exact Nat.le_refl _⟩, ⟨sqR HO_166003.out⟩, ⟨sqK BK156.out⟩, ⟨sqK BK157.out⟩, ⟨sqK BK165.out⟩, ⟨sqB⟩⟩
       case rest =>
        clear HC26
        try clear c1
        try clear p1
        try clear q1
        try clear hx1
        try clear c2
        try clear p2
        try clear c3
        try clear c4
        try clear c6
        try clear p6
        try clear c7
        try clear c13
        try clear c14
        try clear p17
        try clear q17
        try clear hx17
        try clear c18
        try clear c18b0
        try clear c19
        try clear c20
        try clear c22
        try clear c23
        try clear c25
        try clear c27
        try clear c27b0
        try clear c29
        try clear c29b0
        try clear c30
        try clear c30b0
        try clear c31
        try clear c31b0
        try clear c31b1
        try clear c32
        try clear c33
        try clear c35
        try clear c37
        try clear c38
        try clear c39
        try clear c41
        try clear c44
        try clear c45
        try clear hcz10_0
        try clear hcz10_1
        try clear hcz10_2
        try clear hcz10_3
        try clear hcz15_0
        try clear hcz15_1
        try clear hcz15_2
        try clear hcz15_3
        try clear hcz21_0
        try clear hcz21_1
        try clear hcz21_2
        try clear hcz21_3
        try clear hcz24_0
        try clear hcz24_1
        try clear hcz24_2
        try clear hcz24_3
        try clear hcz34_0
        try clear hcz34_1
        try clear hcz34_2
        try clear hcz34_3
        try clear hcz36_0
        try clear hcz36_1
        try clear hcz36_2
        try clear hcz36_3
        try clear hcz40_0
        try clear hcz40_1
        try clear hcz40_2
        try clear hcz40_3
        try clear hcz42_0
        try clear hcz42_1
        try clear hcz42_2
        try clear hcz42_3
        try clear hcz46_0
        try clear hcz46_1
        try clear hcz46_2
        try clear hcz46_3
        try clear hcz8_0
        try clear hcz8_1
        try clear hcz8_2
        try clear hcz8_3
        try clear hfz10_0
        try clear hfz10_1
        try clear hfz10_2
        try clear hfz10_3
        try clear hfz15_0
        try clear hfz15_1
        try clear hfz15_2
        try clear hfz15_3
        try clear hfz21_0
        try clear hfz21_1
        try clear hfz21_2
        try clear hfz21_3
        try clear hfz24_0
        try clear hfz24_1
        try clear hfz24_2
        try clear hfz24_3
        try clear hfz34_0
        try clear hfz34_1
        try clear hfz34_2
        try clear hfz34_3
        try clear hfz36_0
        try clear hfz36_1
        try clear hfz36_2
        try clear hfz36_3
        try clear hfz40_0
        try clear hfz40_1
        try clear hfz40_2
        try clear hfz40_3
        try clear hfz42_0
        try clear hfz42_1
        try clear hfz42_2
        try clear hfz42_3
        try clear hfz46_0
        try clear hfz46_1
        try clear hfz46_2
        try clear hfz46_3
        try clear hfz8_0
        try clear hfz8_1
        try clear hfz8_2
        try clear hfz8_3
        try clear hx176_0
        try clear p176
        try clear p2
        try clear q176
        obtain ⟨kq, x6_25, rfl, HA, HJ25, HO_166003, BK156, BK157, BK165, HB⟩ := hcut
        cases kq with
        | zero => exact absurd HA.out (by simp [zk.j3])
        | succ kj25 =>
         have H := HA.out
         clear HA
         simp only [zk.j3] at H
         by_cases c47 : x6_25 = a0_1
         ·rw [if_pos c47] at H
          have c47b0 : (x6_25 == a0_1) = true := beq_iff_eq.mpr c47
          have c47b1 : (x6_25 != a0_1) = false := bne_eq_false_iff_eq.mpr c47
          clear c47
          have H' := Aside0.mk H
          clear H
          have hnb48 := NB156_157.out
          have hnc48 := NB157_156.out
          have hnb49 := NB156_165.out
          have hnc49 := NB165_156.out
          have hcz50_0 : wc.cell? ⟨gb156, 0, none⟩ = some (.int .i64 a0_0) := (zb BK156.out 0).trans rfl
          have hcz50_1 : wc.cell? ⟨gb156, 1, none⟩ = some (.int .i64 a0_1) := (zb BK156.out 1).trans rfl
          have hcz50_2 : wc.cell? ⟨gb156, 2, none⟩ = some (.int .i64 a0_2) := (zb BK156.out 2).trans rfl
          have hcz50_3 : wc.cell? ⟨gb156, 3, none⟩ = some (.slice A0_3 l0_3.length c0_3) := (zb BK156.out 3).trans rfl
          have hfz50_0 := za BK156.out 0; have hfz50_1 := za BK156.out 1; have hfz50_2 := za BK156.out 2; have hfz50_3 := za BK156.out 3
          go_wp2
          go_roundg kj25
          case measure => have := HK1.out; have := HJ16.out; have := HJ25.out; omega
          case rel => exact ⟨(x4_1), (wrap64 (x5_1 + 1)), (x166003_1), (u166003), (sqD), (sqD), H', ⟨by have := HK1.out; have := HJ16.out; have := HJ25.out; omega⟩, ⟨sqR HO_166003.out⟩, ⟨sqK BK156.out⟩, ⟨sqK BK157.out⟩, ⟨sqK BK165.out⟩, ⟨sqB⟩⟩
         ·rw [if_neg c47] at H
          have c47b0 : (x6_25 == a0_1) = false := beq_eq_false_iff_ne.mpr c47
          have c47b1 : (x6_25 != a0_1) = true := bne_iff_ne.mpr c47
          replace H := Option.bind_eq_some_iff.mp H
          obtain ⟨t177, A510, H⟩ := H
          replace H : ((zl.f kj25 t159 t160 t161 t177 x4_1 x5_1).bind fun t178 => (zk.l0 kj25 (wrap64 (x4_1 + 1)) (wrap64 (x5_1 + 1)) a0_0 a0_1 a0_2 l0_3 t159 t160 t161 t178)) = some (r1, r2, r3, r4) := H
          have A51 := Aside0.mk A510
          clear A510
          replace H := Option.bind_eq_some_iff.mp H
          obtain ⟨t178, A520, H⟩ := H
          replace H : (zk.l0 kj25 (wrap64 (x4_1 + 1)) (wrap64 (x5_1 + 1)) a0_0 a0_1 a0_2 l0_3 t159 t160 t161 t178) = some (r1, r2, r3, r4) := H
          have A52 := Aside0.mk A520
          clear A520
          have H' := Aside0.mk H
          clear H
          have hnb53 := NB156_157.out
          have hnc53 := NB157_156.out
          have hnb54 := NB156_165.out
          have hnc54 := NB165_156.out
          have hcz55_0 : wc.cell? ⟨gb156, 0, none⟩ = some (.int .i64 a0_0) := (zb BK156.out 0).trans rfl
          have hcz55_1 : wc.cell? ⟨gb156, 1, none⟩ = some (.int .i64 a0_1) := (zb BK156.out 1).trans rfl
          have hcz55_2 : wc.cell? ⟨gb156, 2, none⟩ = some (.int .i64 a0_2) := (zb BK156.out 2).trans rfl
          have hcz55_3 : wc.cell? ⟨gb156, 3, none⟩ = some (.slice A0_3 l0_3.length c0_3) := (zb BK156.out 3).trans rfl
          have hfz55_0 := za BK156.out 0; have hfz55_1 := za BK156.out 1; have hfz55_2 := za BK156.out 2; have hfz55_3 := za BK156.out 3
          have hnb56 := NB165_157.out
          have hnc56 := NB157_165.out
          have hcz57_0 : wc.cell? ⟨gb165, 0, none⟩ = some (.int .i64 t159) := (zb BK165.out 0).trans rfl
          have hcz57_1 : wc.cell? ⟨gb165, 1, none⟩ = some (.int .i64 t160) := (zb BK165.out 1).trans rfl
          have hcz57_2 : wc.cell? ⟨gb165, 2, none⟩ = some (.int .i64 t161) := (zb BK165.out 2).trans rfl
          have hcz57_3 : wc.cell? ⟨gb165, 3, none⟩ = some (u166003) := (zb BK165.out 3).trans rfl
          have hfz57_0 := za BK165.out 0; have hfz57_1 := za BK165.out 1; have hfz57_2 := za BK165.out 2; have hfz57_3 := za BK165.out 3
          obtain ⟨Ao58, co58, eo58⟩ := Kd.zU HO_166003.out
          subst eo58
          go_wp2_with (first | ((with_reducible refine zp (f := 61) rfl ?_); refine zP (some 52) rfl rfl Try.func61 (by kernel_rfl) rfl #[.agg #[.int .i64 t159, .int .i64 t160, .int .i64 t161, .slice Ao58 x166003_1.length co58], .int .i64 x4_1, .int .i64 x6_25] rfl sqM ?_; (with_reducible refine (zR.calls kj25 t159 t160 t161 (fun k_ => some k_ = (.slice Ao58 x166003_1.length co58 : Value).ownBlock) (.slice Ao58 x166003_1.length co58) x166003_1 x4_1 x6_25 t177 w _ ?side1 ?side2 A51.out).mono ?_); (case side1 => repeat (first | (with_reducible first | exact HB.out | apply qc | apply z6 | apply zT | refine zO ?_ GE156.out | refine zO ?_ GE157.out | refine zO ?_ GE165.out) | exact HB.out)); (case side2 => exact Kd.vJ rfl HO_166003.out); rintro e w59 ⟨rfl, hy0, hb, hkp⟩; refine ⟨_, rfl, ?_⟩; have n0_ := Aside0.mk (Kd.ZW rfl hy0 (fun k_ e_ => HO_166003.out.1 k_ e_)); have n1_ := Aside0.mk (ja (sqK BK156.out) hkp (fun hs_ => (fun e_ => (Kd.qH HO_166003.out BK156.out (by decide)) e_) hs_)); have n2_ := Aside0.mk (ja (sqK BK157.out) hkp (fun hs_ => (fun e_ => (Kd.qH HO_166003.out BK157.out (by decide)) e_) hs_)); have n3_ := Aside0.mk (ja (sqK BK165.out) hkp (fun hs_ => (fun e_ => (Kd.qH HO_166003.out BK165.out (by decide)) e_) hs_)); have n4_ := Aside0.mk (hb); clear HO_166003; clear BK156; clear BK157; clear BK165; clear HB; have HO_166003 := n0_; have BK156 := n1_; have BK157 := n2_; have BK165 := n3_; have HB := n4_; clear n0_ n1_ n2_ n3_ n4_; (try clear hb); (try clear hkp); (try clear hy0); have hcz60_0 : w59.cell? ⟨gb165, 0, none⟩ = some (.int .i64 t159) := (zb BK165.out 0).trans rfl; have hcz60_1 : w59.cell? ⟨gb165, 1, none⟩ = some (.int .i64 t160) := (zb BK165.out 1).trans rfl; have hcz60_2 : w59.cell? ⟨gb165, 2, none⟩ = some (.int .i64 t161) := (zb BK165.out 2).trans rfl; have hcz60_3 : w59.cell? ⟨gb165, 3, none⟩ = some (.slice Ao58 x166003_1.length co58) := (zb BK165.out 3).trans rfl; have hfz60_0 := za BK165.out 0; have hfz60_1 := za BK165.out 1; have hfz60_2 := za BK165.out 2; have hfz60_3 := za BK165.out 3) | ((with_reducible refine zp (f := 62) rfl ?_); refine zP (some 56) rfl rfl Try.func62 (by kernel_rfl) rfl #[.agg #[.int .i64 t159, .int .i64 t160, .int .i64 t161, .slice Ao58 x166003_1.length co58], .int .i64 x4_1, .int .i64 x5_1] rfl sqM ?_; (with_reducible refine (zl.calls kj25 t159 t160 t161 (fun k_ => some k_ = (.slice Ao58 x166003_1.length co58 : Value).ownBlock) (.slice Ao58 x166003_1.length co58) t177 x4_1 x5_1 t178 w _ ?side1 ?side2 A52.out).mono ?_); (case side1 => repeat (first | (with_reducible first | exact HB.out | apply qc | apply z6 | apply zT | refine zO ?_ GE156.out | refine zO ?_ GE157.out | refine zO ?_ GE165.out) | exact HB.out)); (case side2 => exact Kd.vJ rfl HO_166003.out); rintro e w61 ⟨rfl, hy0, hb, hkp⟩; refine ⟨_, rfl, ?_⟩; have n0_ := Aside0.mk (Kd.ZW rfl hy0 (fun k_ e_ => HO_166003.out.1 k_ e_)); have n1_ := Aside0.mk (ja (sqK BK156.out) hkp (fun hs_ => (fun e_ => (Kd.qH HO_166003.out BK156.out (by decide)) e_) hs_)); have n2_ := Aside0.mk (ja (sqK BK157.out) hkp (fun hs_ => (fun e_ => (Kd.qH HO_166003.out BK157.out (by decide)) e_) hs_)); have n3_ := Aside0.mk (ja (sqK BK165.out) hkp (fun hs_ => (fun e_ => (Kd.qH HO_166003.out BK165.out (by decide)) e_) hs_)); have n4_ := Aside0.mk (hb); clear HO_166003; clear BK156; clear BK157; clear BK165; clear HB; have HO_166003 := n0_; have BK156 := n1_; have BK157 := n2_; have BK165 := n3_; have HB := n4_; clear n0_ n1_ n2_ n3_ n4_; (try clear hb); (try clear hkp); (try clear hy0)))
          go_roundg kj25
          case measure => have := HK1.out; have := HJ16.out; have := HJ25.out; omega
          case rel => exact ⟨(wrap64 (x4_1 + 1)), (wrap64 (x5_1 + 1)), (t178), (.slice Ao58 x166003_1.length co58), (sqD), (sqD), H', ⟨by have := HK1.out; have := HJ16.out; have := HJ25.out; omega⟩, ⟨sqR HO_166003.out⟩, ⟨sqK BK156.out⟩, ⟨sqK BK157.out⟩, ⟨sqK BK165.out⟩, ⟨sqB⟩⟩
      ·replace c25 := Bool.eq_false_iff.mpr c25
       subst c25
       have H1 : ((some (([] : List Int) : List Int)).bind fun y166 => (if 0 ≤ (wrap64 (x4_1 * a0_2)) then (if (wrap64 (x4_1 * a0_2)) ≤ (x166003_1.length : Int) then ((some (x166003_1.take ((wrap64 (x4_1 * a0_2)) : Int).toNat : List Int)).bind fun y169 => (if y166.length + y169.length < 17592186044416 then (some (t159, x4_1, t161, (y166 ++ y169))) else (none))) else (none)) else (none))) = some (r1, r2, r3, r4) := by rw [if_neg (show ¬ (false = true) by decide)] at H; exact H
       clear H
       have H := H1
       clear H1
       obtain ⟨y166, hy166⟩ : ∃ y_ : List Int, y_ = (([] : List Int)) := ⟨_, rfl⟩
       replace H : (if 0 ≤ (wrap64 (x4_1 * a0_2)) then (if (wrap64 (x4_1 * a0_2)) ≤ (x166003_1.length : Int) then ((some (x166003_1.take ((wrap64 (x4_1 * a0_2)) : Int).toNat : List Int)).bind fun y169 => (if y166.length + y169.length < 17592186044416 then (some (t159, x4_1, t161, (y166 ++ y169))) else (none))) else (none)) else (none)) = some (r1, r2, r3, r4) := by first | (rw [hy166]; with_reducible exact H) | (have H2_ := (Option.bind_some _ _).symm.trans H; rw [hy166]; with_reducible exact H2_) | (have H2_ := (Option.bind_some _ _).symm.trans H; with_reducible exact H2_) | with_reducible exact H | (rw [hy166]; exact H) | exact H
       have Ny166 := Aside0.mk hy166
       clear hy166
       obtain ⟨ji62, hji62⟩ : ∃ j_ : Int, (wrap64 (x4_1 * a0_2)) = j_ := ⟨_, rfl⟩
       replace H : (if 0 ≤ (ji62) then (if (ji62) ≤ (x166003_1.length : Int) then ((some (x166003_1.take ((ji62) : Int).toNat : List Int)).bind fun y169 => (if y166.length + y169.length < 17592186044416 then (some (t159, x4_1, t161, (y166 ++ y169))) else (none))) else (none)) else (none)) = some (r1, r2, r3, r4) := by first | (rw [hji62] at H; exact H) | (simp only [hji62] at H ⊢; exact H)
       have hji62w : (IntKind.i64.wrap (x4_1 * a0_2)) = ji62 := (zf _).trans hji62
       by_cases c63 : 0 ≤ (ji62)
       ·rw [if_pos c63] at H
        have c63b0 := eq_true c63
        have c63b1 : decide (0 ≤ (ji62)) = true := decide_eq_true c63
        clear c63
        by_cases c64 : (ji62) ≤ (x166003_1.length : Int)
        ·rw [if_pos c64] at H
         have c64b0 := eq_true c64
         have c64b1 : decide ((ji62) ≤ (x166003_1.length : Int)) = true := decide_eq_true c64
         clear c64
         obtain ⟨y169, hy169⟩ : ∃ y_ : List Int, y_ = (x166003_1.take ((ji62) : Int).toNat) := ⟨_, rfl⟩
         replace H : (if y166.length + y169.length < 17592186044416 then (some (t159, x4_1, t161, (y166 ++ y169))) else (none)) = some (r1, r2, r3, r4) := by first | (rw [hy169]; with_reducible exact H) | (have H2_ := (Option.bind_some _ _).symm.trans H; rw [hy169]; with_reducible exact H2_) | (have H2_ := (Option.bind_some _ _).symm.trans H; with_reducible exact H2_) | with_reducible exact H | (rw [hy169]; exact H) | exact H
         have Ny169 := Aside0.mk hy169
         clear hy169
         by_cases c65 : y166.length + y169.length < 17592186044416
         ·rw [if_pos c65] at H
          have LMc65 := Aside0.mk c65
          clear c65
          obtain ⟨y173, hy173⟩ : ∃ y_ : List Int, y_ = (y166 ++ y169) := ⟨_, rfl⟩
          replace H : (some (t159, x4_1, t161, y173)) = some (r1, r2, r3, r4) := by first | (rw [hy173]; with_reducible exact H) | (have H2_ := (Option.bind_some _ _).symm.trans H; rw [hy173]; with_reducible exact H2_) | (have H2_ := (Option.bind_some _ _).symm.trans H; with_reducible exact H2_) | with_reducible exact H | (rw [hy173]; exact H) | exact H
          have Ny173 := Aside0.mk hy173
          clear hy173
          simp only [Option.some.injEq, Prod.mk.injEq] at H
          obtain ⟨rfl, rfl, rfl, rfl⟩ := H
          have hnb66 := NB165_156.out
          have hnc66 := NB156_165.out
          have hnb67 := NB165_157.out
          have hnc67 := NB157_165.out
          have hcz68_0 : wc.cell? ⟨gb165, 0, none⟩ = some (.int .i64 t159) := (zb BK165.out 0).trans rfl
          have hcz68_1 : wc.cell? ⟨gb165, 1, none⟩ = some (.int .i64 t160) := (zb BK165.out 1).trans rfl
          have hcz68_2 : wc.cell? ⟨gb165, 2, none⟩ = some (.int .i64 t161) := (zb BK165.out 2).trans rfl
          have hcz68_3 : wc.cell? ⟨gb165, 3, none⟩ = some (u166003) := (zb BK165.out 3).trans rfl
          have hfz68_0 := za BK165.out 0; have hfz68_1 := za BK165.out 1; have hfz68_2 := za BK165.out 2; have hfz68_3 := za BK165.out 3
          go_wp2_with (first | ((with_reducible refine zC (N := 61) rfl ?_); refine Kd.yC (Kd.int .i64) _ 3 ?hg (N := 61) ?hd (xs := ([] : List Int)) (inner := []) (ok := fun _ => True) (okp := fun _ => True) ?hr ?hp (fun _ hk => hk) trivial (Below.refl _ _) (Nat.le_refl _) (by simp) ?_; (case hd => rfl); (case hg => rfl); (case hr => exact sqG); (case hp => exact (qy.none _ _)); intro v167 w69 ho70 hb hg_ hnew_; clear hg_ hnew_; (first | rw [← Ny166.out] at ho70 | (simp only [Int.reduceToNat] at ho70; rw [← Ny166.out] at ho70)); have n0_ := Aside0.mk (Kd.qg (by refine sqR ?_; exact (Kd.zo (Kd.zj (p := ⟨gb165, 1, none⟩) (Kd.zF HO_166003.out BK165.out (by decide)) (fun _ hk => hk.2) (.int .i64 x4_1)) (fun _ h_ => h_.1))) (Kd.qC ho70) hb); have n1_ := Aside0.mk (Kd.qo (Kd.qG ho70 (Kd.jg (by refine sqR ?_; exact (Kd.zo (Kd.zj (p := ⟨gb165, 1, none⟩) (Kd.zF HO_166003.out BK165.out (by decide)) (fun _ hk => hk.2) (.int .i64 x4_1)) (fun _ h_ => h_.1))))) (zJ sqB)); have n2_ := Aside0.mk (ze (g := gb156) (o := .cells #[.int .i64 a0_0, .int .i64 a0_1, .int .i64 a0_2, .slice A0_3 l0_3.length c0_3] 27 (0, 0)) (by refine sqK ?_; refine zi ?_ NB156_165.out _; refine sqK ?_; exact BK156.out) hb); have n3_ := Aside0.mk (ze (g := gb157) (o := .cells #[.int .i64 0, .int .i64 0, .int .i64 0, .slice none 0 0] 27 (0, 0)) (by refine sqK ?_; refine zi ?_ NB157_165.out _; refine sqK ?_; exact BK157.out) hb); have n4_ := Aside0.mk (ze (g := gb165) (o := .cells #[.int .i64 t159, .int .i64 x4_1, .int .i64 t161, u166003] 27 (0, 0)) (by refine sqK ?_; refine zy (cs := #[.int .i64 t159, .int .i64 t160, .int .i64 t161, u166003]) ?_ 1 _ rfl; refine sqK ?_; exact BK165.out) hb); have n5_ := Aside0.mk (zg sqB hb); clear HO_166003; clear BK156; clear BK157; clear BK165; clear HB; have HO_166003 := n0_; have HO168 := n1_; have BK156 := n2_; have BK157 := n3_; have BK165 := n4_; have HB := n5_; clear n0_ n1_ n2_ n3_ n4_ n5_; clear hb ho70; have hcz71_0 : w69.cell? ⟨gb165, 0, none⟩ = some (.int .i64 t159) := (zb BK165.out 0).trans rfl; have hcz71_1 : w69.cell? ⟨gb165, 1, none⟩ = some (.int .i64 x4_1) := (zb BK165.out 1).trans rfl; have hcz71_2 : w69.cell? ⟨gb165, 2, none⟩ = some (.int .i64 t161) := (zb BK165.out 2).trans rfl; have hcz71_3 : w69.cell? ⟨gb165, 3, none⟩ = some (u166003) := (zb BK165.out 3).trans rfl; have hfz71_0 := za BK165.out 0; have hfz71_1 := za BK165.out 1; have hfz71_2 := za BK165.out 2; have hfz71_3 := za BK165.out 3; have hnb72 := NB156_157.out; have hnc72 := NB157_156.out; have hcz73_0 : w69.cell? ⟨gb156, 0, none⟩ = some (.int .i64 a0_0) := (zb BK156.out 0).trans rfl; have hcz73_1 : w69.cell? ⟨gb156, 1, none⟩ = some (.int .i64 a0_1) := (zb BK156.out 1).trans rfl; have hcz73_2 : w69.cell? ⟨gb156, 2, none⟩ = some (.int .i64 a0_2) := (zb BK156.out 2).trans rfl; have hcz73_3 : w69.cell? ⟨gb156, 3, none⟩ = some (.slice A0_3 l0_3.length c0_3) := (zb BK156.out 3).trans rfl; have hfz73_0 := za BK156.out 0; have hfz73_1 := za BK156.out 1; have hfz73_2 := za BK156.out 2; have hfz73_3 := za BK156.out 3; obtain ⟨Ao75, co75, eo75⟩ := Kd.zU HO_166003.out; subst eo75; have q74 : ((ji62) : Int) ≤ ((x166003_1.length : Int) : Int) := of_decide_eq_true sqA; obtain ⟨i074, hi074, _, hsz74, _⟩ := info_parts vt; have hroom74 : x166003_1.length ≤ co75 := (Kd.zu HO_166003.out).2.1; have hC74 : Kd.C (Kd.int .i64) _ Ao75 x166003_1.length x166003_1 := (Kd.zu HO_166003.out).2.2; have hcut74 := Vn (P := Try.prog) 22 3 .i64 Try.underlying22 hi074 Ao75 x166003_1.length co75 (ji62) (of_decide_eq_true sqA) q74 hroom74; have hr74 := Kd.QY (m := ((ji62) : Int).toNat) hC74 (by omega); have hy74 : y169.length = ((ji62) : Int).toNat := (by rw [Ny169.out, List.length_take]; omega); rw [← Ny169.out] at hr74; rw [← hy74] at hcut74; have HR172 := Aside0.mk hr74; have HC172 := Aside0.mk (show y169.length ≤ co75 from by omega); clear hr74 hC74 hroom74 hi074 hsz74; have KY74 := Aside0.mk hy74; clear hy74; have KL74 := Aside0.mk (show ((ji62) : Int).toNat ≤ x166003_1.length from by omega); replace q74 := eq_true q74) | ((with_reducible refine qP (b := .append) (xs := #[.tmp 61, .tmp 68]) rfl ?_); at_builtin; refine Kd.jB (Kd.int .i64) (w0 := w) w.heap.size rfl (.tmp 61) (.tmp 68) 22 3 (.int .i64 0) 8 rfl Try.underlying22 vt rfl (by decide) (by omega) v167 y166 y169 _ _ _ (fun k_ => some k_ ≠ (.slice Ao75 x166003_1.length co75 : Value).ownBlock) (fun _ => False) rfl rfl ?aO ?aR (fun _ _ h => h) (fun _ h => h.elim) ?aF ?aB ?aS ?aL ?_; (case aR => exact sqC (by repeat (first | (with_reducible exact HR172.out) | (with_reducible refine Kd.vu ?_ _) | (with_reducible refine Kd.vv ?_ _) | (with_reducible refine Kd.yh ?_) | exact HR172.out))); (case aB => exact sqB); (case aF => exact (fun k_ hk => Kd.vE (Kd.jg (sqR HO_166003.out)) k_ hk)); (case aO => exact (by refine sqR ?_; exact Kd.zo HO168.out (fun _ hk => hk.2))); (case aS => exact (zJ sqB)); (case aL => have := LMc65.out; omega); intro v174 w76 ho hb hg hat; rw [← Ny173.out] at ho; have n0_ := Aside0.mk (Kd.qY (ok := (fun _ => True)) (sqR HO_166003.out) hg hat); have n1_ := Aside0.mk (zX (g := gb156) (o := .cells #[.int .i64 a0_0, .int .i64 a0_1, .int .i64 a0_2, .slice A0_3 l0_3.length c0_3] 27 (0, 0)) (sqK BK156.out) hg (Kd.qH HO168.out BK156.out (by decide))); have n2_ := Aside0.mk (zX (g := gb157) (o := .cells #[.int .i64 0, .int .i64 0, .int .i64 0, .slice none 0 0] 27 (0, 0)) (sqK BK157.out) hg (Kd.qH HO168.out BK157.out (by decide))); have n3_ := Aside0.mk (zX (g := gb165) (o := .cells #[.int .i64 t159, .int .i64 x4_1, .int .i64 t161, .slice Ao75 x166003_1.length co75] 27 (0, 0)) (sqK BK165.out) hg (Kd.qH HO168.out BK165.out (by decide))); have n4_ := Aside0.mk (hb); have n5_ := Aside0.mk ((show Kd.C (Kd.int .i64) w76 Ao75 y169.length y169 from by rw [Ny169.out]; exact Kd.QY (m := ((ji62) : Int).toNat) ((Kd.zu (Kd.qY (ok := (fun _ => True)) (sqR HO_166003.out) hg hat)).2.2) KL74.out)); have n6_ := Aside0.mk (ho); clear HO_166003; clear BK156; clear BK157; clear BK165; clear HB; clear HR172; clear HO168; have HO_166003 := n0_; have BK156 := n1_; have BK157 := n2_; have BK165 := n3_; have HB := n4_; have HR172 := n5_; have HO175 := n6_; clear n0_ n1_ n2_ n3_ n4_ n5_ n6_; clear ho hb hg hat; obtain ⟨Ao77, co77, eo77⟩ := Kd.zU HO175.out; subst eo77; have hcz78_0 : w76.cell? ⟨gb165, 0, none⟩ = some (.int .i64 t159) := (zb BK165.out 0).trans rfl; have hcz78_1 : w76.cell? ⟨gb165, 1, none⟩ = some (.int .i64 x4_1) := (zb BK165.out 1).trans rfl; have hcz78_2 : w76.cell? ⟨gb165, 2, none⟩ = some (.int .i64 t161) := (zb BK165.out 2).trans rfl; have hcz78_3 : w76.cell? ⟨gb165, 3, none⟩ = some (.slice Ao75 x166003_1.length co75) := (zb BK165.out 3).trans rfl; have hfz78_0 := za BK165.out 0; have hfz78_1 := za BK165.out 1; have hfz78_2 := za BK165.out 2; have hfz78_3 := za BK165.out 3; have hcz79_0 : w76.cell? ⟨gb157, 0, none⟩ = some (.int .i64 0) := (zb BK157.out 0).trans rfl; have hcz79_1 : w76.cell? ⟨gb157, 1, none⟩ = some (.int .i64 0) := (zb BK157.out 1).trans rfl; have hcz79_2 : w76.cell? ⟨gb157, 2, none⟩ = some (.int .i64 0) := (zb BK157.out 2).trans rfl; have hcz79_3 : w76.cell? ⟨gb157, 3, none⟩ = some (.slice none 0 0) := (zb BK157.out 3).trans rfl; have hfz79_0 := za BK157.out 0; have hfz79_1 := za BK157.out 1; have hfz79_2 := za BK157.out 2; have hfz79_3 := za BK157.out 3))
          refine bodyPost_ret (results_cell_row rfl _ _ gb157 27 #[.int .i64 t159, .int .i64 x4_1, .int .i64 t161, .slice Ao77 y173.length co77] (0, 0) _ rfl (by refine sqK ?_; refine zy (cs := #[.int .i64 t159, .int .i64 x4_1, .int .i64 t161, .slice none 0 0]) ?_ 3 _ rfl; refine sqK ?_; refine zy (cs := #[.int .i64 t159, .int .i64 x4_1, .int .i64 0, .slice none 0 0]) ?_ 2 _ rfl; refine sqK ?_; refine zy (cs := #[.int .i64 t159, .int .i64 0, .int .i64 0, .slice none 0 0]) ?_ 1 _ rfl; refine sqK ?_; refine zy (cs := #[.int .i64 0, .int .i64 0, .int .i64 0, .slice none 0 0]) ?_ 0 _ rfl; refine sqK ?_; refine zi ?_ NB157_165.out _; refine sqK ?_; exact BK157.out) Try.underlying27 rfl (by kernel_rfl)) rfl ?_
          exact ⟨_, by first | rfl | (simp [jo, jq] <;> rfl) | (simp only [← hji62]; first | rfl | (simp [jo, jq] <;> rfl)) | (simp [*, jo, jq] <;> rfl), by refine sqR ?_; exact Kd.zo (Kd.zj (p := ⟨gb157, 3, none⟩) (Kd.zj (p := ⟨gb157, 2, none⟩) (Kd.zj (p := ⟨gb157, 1, none⟩) (Kd.zj (p := ⟨gb157, 0, none⟩) (Kd.zj (p := ⟨gb165, 3, none⟩) (Kd.zF (Kd.zF HO175.out BK165.out (by decide)) BK157.out (by decide)) (fun _ hk => hk.1.2) (.slice Ao77 y173.length co77)) (fun _ hk => hk.2) (.int .i64 t159)) (fun _ hk => hk.2) (.int .i64 x4_1)) (fun _ hk => hk.2) (.int .i64 t161)) (fun _ hk => hk.2) (.slice Ao77 y173.length co77)) (fun _ hk => trivial), sqB⟩
         ·rw [if_neg c65] at H
          exact absurd H (by simp)
        ·rw [if_neg c64] at H
         exact absurd H (by simp)
       ·rw [if_neg c63] at H
        exact absurd H (by simp)
 ·replace c3 := Bool.eq_false_iff.mpr c3
  subst c3
  have H1 : (some (0, 0, 0, ([] : List Int))) = some (r1, r2, r3, r4) := by rw [if_neg (show ¬ (false = true) by decide)] at H; exact H
  clear H
  have H := H1
  clear H1
  simp only [Option.some.injEq, Prod.mk.injEq] at H
  obtain ⟨rfl, rfl, rfl, rfl⟩ := H
  go_enter Try.func32, Try.ntmps32
  go_wp2_with (first | ((with_reducible refine zC (N := 1) rfl ?_); refine zD ?hg (N := 1) ?hd (cs := #[.int .i64 a0_0, .int .i64 a0_1, .int .i64 a0_2, .slice A0_3 l0_3.length c0_3]) (t := 27) ?hr ?_; (case hd => rfl); (case hg => rfl); (case hr => exact sqG); intro gb156 hg w80 hbox hb; have n0_ := Aside0.mk (zg sqB hb); have n1_ := Aside0.mk (hbox); have n2_ := Aside0.mk ((sqS hg : w.heap.size ≤ gb156)); have n3_ := Aside0.mk ((sqS hg : w.heap.size ≤ gb156)); clear HB; have HB := n0_; have BK156 := n1_; have GW156 := n2_; have GE156 := n3_; clear n0_ n1_ n2_ n3_; clear hb hbox hg) | ((with_reducible refine zC (N := 2) rfl ?_); refine zD ?hg (N := 2) ?hd (cs := #[.int .i64 0, .int .i64 0, .int .i64 0, .slice none 0 0]) (t := 27) ?hr ?_; (case hd => rfl); (case hg => rfl); (case hr => exact sqG); intro gb157 hg w81 hbox hb; have n0_ := Aside0.mk (ze (g := gb156) (o := .cells #[.int .i64 a0_0, .int .i64 a0_1, .int .i64 a0_2, .slice A0_3 l0_3.length c0_3] 27 (0, 0)) (sqK BK156.out) hb); have n1_ := Aside0.mk (zg sqB hb); have n2_ := Aside0.mk (hbox); have n3_ := Aside0.mk ((sqS hg : w.heap.size ≤ gb157)); have n4_ := Aside0.mk ((sqS hg : w.heap.size ≤ gb157)); have n5_ := Aside0.mk ((by rw [hg]; exact Nat.ne_of_lt (zI (g := gb156) (o := .cells #[.int .i64 a0_0, .int .i64 a0_1, .int .i64 a0_2, .slice A0_3 l0_3.length c0_3] 27 (0, 0)) (sqK BK156.out)) : gb156 ≠ gb157)); have n6_ := Aside0.mk ((by rw [hg]; exact Nat.ne_of_gt (zI (g := gb156) (o := .cells #[.int .i64 a0_0, .int .i64 a0_1, .int .i64 a0_2, .slice A0_3 l0_3.length c0_3] 27 (0, 0)) (sqK BK156.out)) : gb157 ≠ gb156)); clear BK156; clear HB; have BK156 := n0_; have HB := n1_; have BK157 := n2_; have GW157 := n3_; have GE157 := n4_; have NB156_157 := n5_; have NB157_156 := n6_; clear n0_ n1_ n2_ n3_ n4_ n5_ n6_; clear hb hbox hg; have hnb82 := NB156_157.out; have hnc82 := NB157_156.out; have hcz83_0 : w81.cell? ⟨gb156, 0, none⟩ = some (.int .i64 a0_0) := (zb BK156.out 0).trans rfl; have hcz83_1 : w81.cell? ⟨gb156, 1, none⟩ = some (.int .i64 a0_1) := (zb BK156.out 1).trans rfl; have hcz83_2 : w81.cell? ⟨gb156, 2, none⟩ = some (.int .i64 a0_2) := (zb BK156.out 2).trans rfl; have hcz83_3 : w81.cell? ⟨gb156, 3, none⟩ = some (.slice A0_3 l0_3.length c0_3) := (zb BK156.out 3).trans rfl; have hfz83_0 := za BK156.out 0; have hfz83_1 := za BK156.out 1; have hfz83_2 := za BK156.out 2; have hfz83_3 := za BK156.out 3) | ((with_reducible refine zp (f := 37) rfl ?_); refine zP (some 8) rfl rfl Try.func37 (by kernel_rfl) rfl #[.agg #[.int .i64 a0_0, .int .i64 a0_1, .int .i64 a0_2, .slice A0_3 l0_3.length c0_3]] rfl sqM ?_; (with_reducible refine (zq.calls k a0_0 a0_1 a0_2 _ _ l0_3 false _ ?side1 ?side2 A2.out).mono ?_); (case side1 => exact sqC (Kd.z1 HR0_3.out HB.out)); (case side2 => exact HC0_3.out); rintro e w84 ⟨rfl, hb⟩; refine ⟨_, rfl, ?_⟩; have n0_ := Aside0.mk (ze (g := gb156) (o := .cells #[.int .i64 a0_0, .int .i64 a0_1, .int .i64 a0_2, .slice A0_3 l0_3.length c0_3] 27 (0, 0)) (sqK BK156.out) hb); have n1_ := Aside0.mk (ze (g := gb157) (o := .cells #[.int .i64 0, .int .i64 0, .int .i64 0, .slice none 0 0] 27 (0, 0)) (sqK BK157.out) hb); have n2_ := Aside0.mk (zg sqB hb); clear BK156; clear BK157; clear HB; have BK156 := n0_; have BK157 := n1_; have HB := n2_; clear n0_ n1_ n2_; (try clear hb); (try clear hb2); (try clear hk); (try clear hi); have hcz85_0 : w84.cell? ⟨gb157, 0, none⟩ = some (.int .i64 0) := (zb BK157.out 0).trans rfl; have hcz85_1 : w84.cell? ⟨gb157, 1, none⟩ = some (.int .i64 0) := (zb BK157.out 1).trans rfl; have hcz85_2 : w84.cell? ⟨gb157, 2, none⟩ = some (.int .i64 0) := (zb BK157.out 2).trans rfl; have hcz85_3 : w84.cell? ⟨gb157, 3, none⟩ = some (.slice none 0 0) := (zb BK157.out 3).trans rfl; have hfz85_0 := za BK157.out 0; have hfz85_1 := za BK157.out 1; have hfz85_2 := za BK157.out 2; have hfz85_3 := za BK157.out 3))
  refine bodyPost_ret (results_cell_row rfl _ _ gb157 27 #[.int .i64 0, .int .i64 0, .int .i64 0, .slice none 0 0] (0, 0) _ rfl (by refine sqK ?_; refine zy (cs := #[.int .i64 0, .int .i64 0, .int .i64 0, .slice none 0 0]) ?_ 3 _ rfl; refine sqK ?_; refine zy (cs := #[.int .i64 0, .int .i64 0, .int .i64 0, .slice none 0 0]) ?_ 2 _ rfl; refine sqK ?_; refine zy (cs := #[.int .i64 0, .int .i64 0, .int .i64 0, .slice none 0 0]) ?_ 1 _ rfl; refine sqK ?_; refine zy (cs := #[.int .i64 0, .int .i64 0, .int .i64 0, .slice none 0 0]) ?_ 0 _ rfl; refine sqK ?_; exact BK157.out) Try.underlying27 rfl (by kernel_rfl)) rfl ?_
  exact ⟨_, sqE, sqN, sqB⟩

end Go.Proofs.Ytopkfhnnapncgaa.F
end
