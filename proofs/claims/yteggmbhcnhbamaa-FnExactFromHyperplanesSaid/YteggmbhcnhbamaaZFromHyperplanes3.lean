/- Several texts of this session in one: GvFirstFailure, Fx4, Fx16, Fx10, Fx11, Fx14, Fx38, Fx37, GvSetsOf, GvFlatsIn, Fx39, GvMaximalSets, Fx27, Fx7, GvMinimalSets, GvCircuits, GvFromCircuitsQ. Conditions: as each theorem says. -/
import Derived.Test.YteggmbhcnhbamaaZFromHyperplanes0
import Derived.Test.YteggmbhcnhbamaaZFromHyperplanes1
import Derived.Test.YteggmbhcnhbamaaZFromHyperplanes2
import Derived.Shelf.Abstract
set_option maxHeartbeats 8000000
set_option maxRecDepth 100000
section
namespace Go.Proofs.Yteggmbhcnhbamaa.F
open Go.RowKit Go.Proofs.YteggmbhcnhbamaaW.PrintWords Go.Proofs.YteggmbhcnhbamaaW.PrintLast Go.Proofs.YteggmbhcnhbamaaW.PrintMore
set_option linter.unusedSimpArgs false
set_option linter.unusedVariables false
/-- Does f put for e make a base of a? -/
def zt.q (k : Nat) (l : List Int) (a e : Int) (x : Int) : Option Bool :=
  if 0 ≤ e then (if 0 ≤ x then vD.f k l (Go.bits .or .i64 (Go.bits .andNot .i64 a (shl .i64 1 e)) (shl .i64 1 x)) else none) else none
mutual
def zt.l0 : Nat → List Int → Int → Option (Int × Int × Int × Bool)
  | 0, _, _ => none
  | k + 1, l, x21 => if x21 < (l.length : Int) then (if 0 ≤ x21 then zt.l1 k l x21 0 else none) else some (0, 0, 0, false)
def zt.l1 : Nat → List Int → Int → Int → Option (Int × Int × Int × Bool)
  | 0, _, _, _ => none
  | k + 1, l, x21, x28 => if x28 < (l.length : Int) then (if 0 ≤ x28 then ((qb.f k (Go.bits .andNot .i64 (rd l x21) (rd l x28))).bind fun es => zt.l2 k l x21 x28 es 0) else none) else zt.l0 k l (wrap64 (x21 + 1))
def zt.l2 : Nat → List Int → Int → Int → List Int → Int → Option (Int × Int × Int × Bool)
  | 0, _, _, _, _, _ => none
  | k + 1, l, x21, x28, es, x37 =>
    if x37 < (es.length : Int) then
      (if 0 ≤ x37 then ((qb.f k (Go.bits .andNot .i64 (rd l x28) (rd l x21))).bind fun fs => (if fs.length ≤ 17592186044416 then ((Zv (zt.q k l (rd l x21) (rd es x37)) fs).bind fun t =>
        if t = true then zt.l2 k l x21 x28 es (wrap64 (x37 + 1)) else some (rd l x21, rd l x28, rd es x37, true)) else none)) else none)
    else zt.l1 k l x21 (wrap64 (x28 + 1))
end
def zt.f (k : Nat) (a0_0 : Int) (l0_1 : List Int) : Option (Int × Int × Int × Bool) :=
  (zE.f k a0_0 l0_1).bind fun t => if t = true then zt.l0 k l0_1 0 else some (0, 0, 0, false)
theorem zt.pred (k : Nat) (l : List Int) (a e n : Int) (A : Option Addr) (c gm ga ge : Nat) (w : World) (hm : w.heap[gm]? = some (.cells #[.int .i64 n, .slice A l.length c] 27 (0, 0)))
    (ha : w.heap[ga]? = some (.cells #[.int .i64 a] 3 (0, 0))) (he : w.heap[ge]? = some (.cells #[.int .i64 e] 3 (0, 0))) (hr : Kd.C (Kd.int .i64) w A l.length l) (hc : l.length ≤ c) :
    y8 111 #[.pointer (some ⟨gm, 0, none⟩), .pointer (some ⟨ga, 0, none⟩), .pointer (some ⟨ge, 0, none⟩)] (zt.q k l a e) w := by
  intro W x r hq hb
  unfold zt.q at hq
  by_cases h0 : 0 ≤ e
  · rw [if_pos h0] at hq
    by_cases h1 : 0 ≤ x
    · rw [if_pos h1] at hq
      have hc0 : W.cell? ⟨gm, 1, none⟩ = some (.slice A l.length c) := (zb (ze hm hb) 1).trans rfl
      have hc1 : W.cell? ⟨ga, 0, none⟩ = some (.int .i64 a) := (zb (ze ha hb) 0).trans rfl
      have hc2 : W.cell? ⟨ge, 0, none⟩ = some (.int .i64 e) := (zb (ze he hb) 0).trans rfl
      have HR := Aside0.mk (Kd.zp hr hb)
      have HC := Aside0.mk hc
      have hu := Try.underlying27
      obtain ⟨j1, hj1⟩ : ∃ j_ : Int, (shl .i64 1 e) = j_ := ⟨_, rfl⟩
      obtain ⟨j2, hj2⟩ : ∃ j_ : Int, (shl .i64 1 x) = j_ := ⟨_, rfl⟩
      rw [hj1, hj2] at hq
      have H := Aside0.mk hq
      clear hq hm ha he hr hc hb
      have hj1_ : (IntKind.i64.wrap (1 * 2 ^ min e.toNat 64)) = j1 := hj1
      have hj1u : (IntKind.i64.wrap (2 ^ min e.toNat 64)) = j1 := by have h_ := hj1_; rw [Int.one_mul] at h_; exact h_
      have hj1y : (wrap64 (1 * 2 ^ min e.toNat 64)) = j1 := (zj _).symm.trans hj1_
      have hj2_ : (IntKind.i64.wrap (1 * 2 ^ min x.toNat 64)) = j2 := hj2
      have hj2u : (IntKind.i64.wrap (2 ^ min x.toNat 64)) = j2 := by have h_ := hj2_; rw [Int.one_mul] at h_; exact h_
      have hj2y : (wrap64 (1 * 2 ^ min x.toNat 64)) = j2 := (zj _).symm.trans hj2_
      have c0b0 : decide (0 ≤ e) = true := decide_eq_true h0
      have c1b0 : decide (0 ≤ x) = true := decide_eq_true h1
      replace h0 := eq_true h0
      replace h1 := eq_true h1
      go_enter Try.func111, Try.ntmps111
      go_wp2
      repeat (go_quiet ((go_at_call 112; (try simp only [zj, zo]); (with_reducible refine (vD.calls k _ _ l _ r _ ?side1 HC.out H.out).mono ?_); (case side1 => repeat (first | exact HR.out | (with_reducible refine Kd.Zr ?_ _) | (with_reducible refine Kd.Zg ?_))); rintro e w' ⟨rfl, ⟨nd, rfl⟩⟩; (try first | exact ⟨rfl, _, World.drewN_drewN _ _ _⟩ | exact ⟨rfl, _, Eq.trans (World.drewN_drewN _ _ _) (congrArg (World.drewN _) (Nat.add_assoc _ _ _))⟩))); try go_wp2)
      go_ret
      exact ⟨rfl, by repeat (first | exact Below.refl _ _ | apply qi | apply qh)⟩
    · rw [if_neg h1] at hq; exact absurd hq (by simp)
  · rw [if_neg h0] at hq; exact absurd hq (by simp)
theorem zt.calls (k : Nat) (a0_0 : Int) (A0_1 : Option Addr) (c0_1 : Nat) (l0_1 : List Int) (r1 : Int) (r2 : Int) (r3 : Int) (r4 : Bool) (w : World) (hr0_1 : Kd.C (Kd.int .i64) w A0_1 l0_1.length l0_1) (hc0_1 : l0_1.length ≤ c0_1) (h : zt.f k a0_0 l0_1 = some (r1, r2, r3, r4)) :
    Calls Try.prog 77 #[.agg #[.int .i64 a0_0, .slice A0_1 l0_1.length c0_1]] w fun e w' => e = .returned (.tuple #[.agg #[.int .i64 r1, .int .i64 r2, .int .i64 r3], .bool r4]) ∧ Below w.heap.size w w' := by
  have hum := Try.underlying27
  have huf := Try.underlying50
  have HR := Aside0.mk hr0_1
  have HC := Aside0.mk hc0_1
  have HB := Aside0.mk (Below.refl w.heap.size w)
  clear hr0_1 hc0_1
  unfold zt.f at h
  obtain ⟨t0, ht0, h⟩ := Option.bind_eq_some_iff.mp h
  have HT := Aside0.mk ht0
  clear ht0
  have H := Aside0.mk h
  clear h
  cases t0 with
  | false =>
    go_enter Try.func77, Try.ntmps77
    go_wp2_with (first
      | ((with_reducible refine zi (N := 1) rfl ?_); refine zl ?hg (N := 1) ?hd (cs := #[.int .i64 a0_0, .slice A0_1 l0_1.length c0_1]) (t := 27) ?hr ?_; (case hd => rfl); (case hg => rfl); (case hr => exact sqG); intro gm hg w4 hbox hb; have HB1 := Aside0.mk hb; have BKm := Aside0.mk hbox; have HG1 := Aside0.mk hg; clear hb hbox hg)
      | ((with_reducible refine zi (N := 2) rfl ?_); refine zl ?hg (N := 2) ?hd (cs := #[.int .i64 0, .int .i64 0, .int .i64 0]) (t := 50) ?hr ?_; (case hd => rfl); (case hg => rfl); (case hr => exact sqG); intro gr hg w5 hbox hb; have HG2 := Aside0.mk hg; have HGr := Aside0.mk (show w.heap.size ≤ gr from by rw [hg]; exact HB1.out.size); have HNE := Aside0.mk (show gm ≠ gr from by rw [hg]; exact Nat.ne_of_lt (zV BKm.out)); have HS := Aside0.mk (FFS.mk (n := a0_0) (A := A0_1) (c := c0_1) (l := l0_1) (gm := gm) (gr := gr) (w0 := w) (ze BKm.out hb) hbox (Kd.zp HR.out (zc HB1.out hb)) (zc HB1.out hb)); clear BKm HB1 hb hbox hg; have hcz0 : w5.cell? ⟨gm, 0, none⟩ = some (.int .i64 a0_0) := (zb HS.out.m 0).trans rfl; have hcz1 : w5.cell? ⟨gm, 1, none⟩ = some (.slice A0_1 l0_1.length c0_1) := (zb HS.out.m 1).trans rfl)
      | ((with_reducible refine zd (f := 52) rfl ?_); refine zn (some 15) rfl rfl Try.func52 (by kernel_rfl) rfl #[.int .i64 a0_0, .slice A0_1 l0_1.length c0_1] rfl (by (try simp only [List.map_toArray, List.map_cons, List.map_nil]); first | done | rfl) ?_; (with_reducible refine (zE.calls k a0_0 _ _ l0_1 false _ HS.out.C HC.out HT.out).mono ?_); rintro e w' ⟨rfl, ⟨nd, rfl⟩⟩; refine ⟨_, rfl, ?_⟩; generalize hw6 : w5.drewN nd = w6; have HS6 := Aside0.mk (HS.out.below (w2 := w6) (by rw [← hw6]; exact qh (Below.refl _ _) nd)); clear hw6 HS hcz0 hcz1; have HS := HS6; clear HS6; have hne := HNE.out; have hne2 := HNE.out.symm; have hcr0 : w6.cell? ⟨gr, 0, none⟩ = some (.int .i64 0) := (zb HS.out.r 0).trans rfl; have hcr1 : w6.cell? ⟨gr, 1, none⟩ = some (.int .i64 0) := (zb HS.out.r 1).trans rfl; have hcr2 : w6.cell? ⟨gr, 2, none⟩ = some (.int .i64 0) := (zb HS.out.r 2).trans rfl; have hfr0 := za HS.out.r 0; have hfr1 := za HS.out.r 1; have hfr2 := za HS.out.r 2))
    refine bodyPost_ret (qG rfl _ _ gr 50 #[.int .i64 0, .int .i64 0, .int .i64 0] (0, 0) _ rfl (by refine zB (cs := #[.int .i64 0, .int .i64 0, .int .i64 0]) ?_ 2 _ rfl; refine zB (cs := #[.int .i64 0, .int .i64 0, .int .i64 0]) ?_ 1 _ rfl; refine zB (cs := #[.int .i64 0, .int .i64 0, .int .i64 0]) ?_ 0 _ rfl; exact HS.out.r) Try.underlying50 rfl (by kernel_rfl)) rfl ?_
    have hh := H.out
    simp only [Bool.false_eq_true, if_false, Option.some.injEq, Prod.mk.injEq] at hh
    obtain ⟨rfl, rfl, rfl, rfl⟩ := hh
    exact ⟨rfl, by repeat (first | exact HS.out.B | refine jt ?_ HGr.out)⟩
  | true =>
    go_enter Try.func77, Try.ntmps77
    go_wp2_with (first
      | ((with_reducible refine zi (N := 1) rfl ?_); refine zl ?hg (N := 1) ?hd (cs := #[.int .i64 a0_0, .slice A0_1 l0_1.length c0_1]) (t := 27) ?hr ?_; (case hd => rfl); (case hg => rfl); (case hr => exact sqG); intro gm hg w4 hbox hb; have HB1 := Aside0.mk hb; have BKm := Aside0.mk hbox; have HG1 := Aside0.mk hg; clear hb hbox hg)
      | ((with_reducible refine zi (N := 2) rfl ?_); refine zl ?hg (N := 2) ?hd (cs := #[.int .i64 0, .int .i64 0, .int .i64 0]) (t := 50) ?hr ?_; (case hd => rfl); (case hg => rfl); (case hr => exact sqG); intro gr hg w5 hbox hb; have HG2 := Aside0.mk hg; have HGr := Aside0.mk (show w.heap.size ≤ gr from by rw [hg]; exact HB1.out.size); have HNE := Aside0.mk (show gm ≠ gr from by rw [hg]; exact Nat.ne_of_lt (zV BKm.out)); have HS := Aside0.mk (FFS.mk (n := a0_0) (A := A0_1) (c := c0_1) (l := l0_1) (gm := gm) (gr := gr) (w0 := w) (ze BKm.out hb) hbox (Kd.zp HR.out (zc HB1.out hb)) (zc HB1.out hb)); clear BKm HB1 hb hbox hg; have hcz0 : w5.cell? ⟨gm, 0, none⟩ = some (.int .i64 a0_0) := (zb HS.out.m 0).trans rfl; have hcz1 : w5.cell? ⟨gm, 1, none⟩ = some (.slice A0_1 l0_1.length c0_1) := (zb HS.out.m 1).trans rfl)
      | ((with_reducible refine zd (f := 52) rfl ?_); refine zn (some 15) rfl rfl Try.func52 (by kernel_rfl) rfl #[.int .i64 a0_0, .slice A0_1 l0_1.length c0_1] rfl (by (try simp only [List.map_toArray, List.map_cons, List.map_nil]); first | done | rfl) ?_; (with_reducible refine (zE.calls k a0_0 _ _ l0_1 true _ HS.out.C HC.out HT.out).mono ?_); rintro e w' ⟨rfl, ⟨nd, rfl⟩⟩; refine ⟨_, rfl, ?_⟩; generalize hw6 : w5.drewN nd = w6; have HS6 := Aside0.mk (HS.out.below (w2 := w6) (by rw [← hw6]; exact qh (Below.refl _ _) nd)); clear hw6 HS hcz0 hcz1; have HS := HS6; clear HS6; have hcz1 : w6.cell? ⟨gm, 1, none⟩ = some (.slice A0_1 l0_1.length c0_1) := (zb HS.out.m 1).trans rfl))
    have H0 := Aside0.mk (show zt.l0 k l0_1 0 = some (r1, r2, r3, r4) by have hh := H.out; simpa using hh)
    clear H hcz1
    go_loopg [21] k (fun kq v21 w' => ∃ (x21 : Int), v21 = .int .i64 x21 ∧ Aside0 (zt.l0 kq l0_1 x21 = some (r1, r2, r3, r4)) ∧ Aside0 (kq ≤ k) ∧ Aside0 (FFS w w' gm gr a0_0 A0_1 c0_1 l0_1))
    case atStart => exact ⟨0, rfl, H0, ⟨Nat.le_refl _⟩, HS⟩
    case round =>
      clear H0 HS HB HG1 HG2
      obtain ⟨x21, rfl, HA, HK1, HS⟩ := hrel
      cases gk with
      | zero => exact absurd HA.out (by simp [zt.l0])
      | succ k1 =>
        have H := HA.out
        clear HA
        simp only [zt.l0] at H
        by_cases c1 : x21 < (l0_1.length : Int)
        · rw [if_pos c1] at H
          by_cases c2 : 0 ≤ x21
          · rw [if_pos c2] at H
            have H1 := Aside0.mk H
            clear H
            have c1b0 : decide (x21 < (l0_1.length : Int)) = true := decide_eq_true c1
            have c2b0 : decide (0 ≤ x21) = true := decide_eq_true c2
            obtain ⟨ad1, e1, hx1⟩ := Kd.zT HS.out.C x21 c2 c1
            cases e1
            replace c1 := eq_true c1
            replace c2 := eq_true c2
            have hcz1 : wr.cell? ⟨gm, 1, none⟩ = some (.slice (some ad1) l0_1.length c0_1) := (zb HS.out.m 1).trans rfl
            go_wp2_with (first
              | ((with_reducible refine zi (N := 5) rfl ?_); refine zl ?hg (N := 5) ?hd (cs := #[.int .i64 0]) (t := 3) ?hr ?_; (case hd => rfl); (case hg => rfl); (case hr => exact sqG); intro ga hg w7 hbox hb; have HG3 := Aside0.mk hg; have BKa := Aside0.mk hbox; have HBa := Aside0.mk hb; have hca : w7.cell? ⟨ga, 0, none⟩ = some (.int .i64 0) := (zb BKa.out 0).trans rfl; have hfa := za BKa.out 0; clear hg hbox hb hx1 hcz1)
              | ((with_reducible refine j5 (t := 3) (p := 5) rfl ?_); refine jQ (t := 3) (p := 5) (v := ?vo_w8) (w1 := (w7.setCell ⟨ga, 0, none⟩ (.int .i64 (rd l0_1 x21)))) ?hg ?ho ?hn ?hr ?_; (case ho => rfl); (case hg => rfl); (case hn => rfl); (case hr => exact sqG); intro w8 hw; have hp_ := y3 (v := .int .i64 (rd l0_1 x21)) HG3.out BKa.out HBa.out; rw [← hw] at hp_; have HS8 := Aside0.mk (HS.out.below hp_.2); have BK8 := Aside0.mk hp_.1; clear hp_ hw BKa HBa HG3 HS hca hfa; have HS := HS8; have BKa := BK8; clear HS8 BK8; have hcz1 : w8.cell? ⟨gm, 1, none⟩ = some (.slice (some ad1) l0_1.length c0_1) := (zb HS.out.m 1).trans rfl))
            clear hcz1
            go_loopg [28] k1 (fun kq v28 w' => ∃ (x28 : Int), v28 = .int .i64 x28 ∧ Aside0 (zt.l1 kq l0_1 x21 x28 = some (r1, r2, r3, r4)) ∧ Aside0 (kq ≤ k1) ∧ Aside0 (FFS w w' gm gr a0_0 (some ad1) c0_1 l0_1) ∧ Aside0 (w'.heap[ga]? = some (.cells #[.int .i64 (rd l0_1 x21)] 3 (0, 0))))
            case atStart => exact ⟨0, rfl, H1, ⟨Nat.le_refl _⟩, HS, BKa⟩
            case round =>
              clear H1 HS BKa
              obtain ⟨x28, rfl, HA, HK2, HS, BKa⟩ := hrel
              cases gk with
              | zero => exact absurd HA.out (by simp [zt.l1])
              | succ k2 =>
                have H := HA.out
                clear HA
                simp only [zt.l1] at H
                by_cases c3 : x28 < (l0_1.length : Int)
                · rw [if_pos c3] at H
                  by_cases c4 : 0 ≤ x28
                  · rw [if_pos c4] at H
                    obtain ⟨es, hes, H⟩ := Option.bind_eq_some_iff.mp H
                    have H1 := Aside0.mk H
                    have HE := Aside0.mk hes
                    clear H hes
                    have c3b0 : decide (x28 < (l0_1.length : Int)) = true := decide_eq_true c3
                    have c4b0 : decide (0 ≤ x28) = true := decide_eq_true c4
                    obtain ⟨ad2, e2, hx2⟩ := Kd.zT HS.out.C x28 c4 c3
                    cases e2
                    replace c3 := eq_true c3
                    replace c4 := eq_true c4
                    have hca : wr.cell? ⟨ga, 0, none⟩ = some (.int .i64 (rd l0_1 x21)) := (zb BKa.out 0).trans rfl
                    go_wp2_with ((with_reducible refine zd (f := 110) rfl ?_); refine zn (some 35) rfl rfl Try.func110 (by kernel_rfl) rfl #[.int .i64 (Go.bits .andNot .i64 (rd l0_1 x21) (rd l0_1 x28))] rfl (by (try simp only [List.map_toArray, List.map_cons, List.map_nil]); first | done | rfl) ?_; (with_reducible refine (qb.calls k2 _ es _ HE.out).mono ?_); rintro e w9 ⟨ve, rfl, ho, hb⟩; refine ⟨_, rfl, ?_⟩; obtain ⟨Ae, ce, ee⟩ := Kd.zR ho; subst ee; have HCE := Aside0.mk (Kd.zh ho).2.2; have HLE := Aside0.mk (Kd.zh ho).2.1; have HS9 := Aside0.mk (HS.out.below hb); have BK9 := Aside0.mk (ze BKa.out hb); clear ho hb HS BKa hx2 hca; have HS := HS9; have BKa := BK9; clear HS9 BK9)
                    go_loopg [37] k2 (fun kq v37 w' => ∃ (x37 : Int), v37 = .int .i64 x37 ∧ Aside0 (zt.l2 kq l0_1 x21 x28 es x37 = some (r1, r2, r3, r4)) ∧ Aside0 (kq ≤ k2) ∧ Aside0 (FFS w w' gm gr a0_0 (some ad1) c0_1 l0_1) ∧ Aside0 (w'.heap[ga]? = some (.cells #[.int .i64 (rd l0_1 x21)] 3 (0, 0))) ∧ Aside0 (Kd.C (Kd.int .i64) w' Ae es.length es))
                    case atStart => exact ⟨0, rfl, H1, ⟨Nat.le_refl _⟩, HS, BKa, HCE⟩
                    case round =>
                      clear H1 HS BKa HCE HE
                      obtain ⟨x37, rfl, HA, HK3, HS, BKa, HCE⟩ := hrel
                      cases gk with
                      | zero => exact absurd HA.out (by simp [zt.l2])
                      | succ k3 =>
                        have H := HA.out
                        clear HA
                        simp only [zt.l2] at H
                        by_cases c5 : x37 < (es.length : Int)
                        · rw [if_pos c5] at H
                          by_cases c6 : 0 ≤ x37
                          · rw [if_pos c6] at H
                            obtain ⟨fs, hfs, H⟩ := Option.bind_eq_some_iff.mp H
                            by_cases c7 : fs.length ≤ 17592186044416
                            · rw [if_pos c7] at H
                              obtain ⟨tt, htt, H⟩ := Option.bind_eq_some_iff.mp H
                              have HF := Aside0.mk hfs
                              have HLF := Aside0.mk c7
                              have HAny := Aside0.mk htt
                              have H1 := Aside0.mk H
                              clear H hfs c7 htt
                              have c5b0 : decide (x37 < (es.length : Int)) = true := decide_eq_true c5
                              have c6b0 : decide (0 ≤ x37) = true := decide_eq_true c6
                              obtain ⟨ad3, e3, hx3⟩ := Kd.zT HCE.out x37 c6 c5
                              cases e3
                              replace c5 := eq_true c5
                              replace c6 := eq_true c6
                              cases tt with
                              | true =>
                                go_wp2_with (first
                                  | ((with_reducible refine zi (N := 9) rfl ?_); refine zl ?hg (N := 9) ?hd (cs := #[.int .i64 0]) (t := 3) ?hr ?_; (case hd => rfl); (case hg => rfl); (case hr => exact sqG); intro ge hg w10 hbox hb; have HG4 := Aside0.mk hg; have BKe := Aside0.mk hbox; have HBe := Aside0.mk hb; have hce : w10.cell? ⟨ge, 0, none⟩ = some (.int .i64 0) := (zb BKe.out 0).trans rfl; have hfe := za BKe.out 0; clear hg hbox hb hx3)
                                  | ((with_reducible refine j5 (t := 3) (p := 9) rfl ?_); refine jQ (t := 3) (p := 9) (v := ?vo_w11) (w1 := (w10.setCell ⟨ge, 0, none⟩ (.int .i64 (rd es x37)))) ?hg ?ho ?hn ?hr ?_; (case ho => rfl); (case hg => rfl); (case hn => rfl); (case hr => exact sqG); intro w11 hw; have hp_ := y3 (v := .int .i64 (rd es x37)) HG4.out BKe.out HBe.out; rw [← hw] at hp_; have HS8 := Aside0.mk (HS.out.below hp_.2); have BK8 := Aside0.mk hp_.1; have BK7 := Aside0.mk (ze BKa.out hp_.2); have HC8 := Aside0.mk (Kd.zp HCE.out hp_.2); clear hp_ hw BKe HBe HG4 HS hce hfe BKa HCE; have HS := HS8; have BKe := BK8; have BKa := BK7; have HCE := HC8; clear HS8 BK8 BK7 HC8; have hca : w11.cell? ⟨ga, 0, none⟩ = some (.int .i64 (rd l0_1 x21)) := (zb BKa.out 0).trans rfl)
                                  | ((with_reducible refine zd (f := 110) rfl ?_); refine zn (some 44) rfl rfl Try.func110 (by kernel_rfl) rfl #[.int .i64 (Go.bits .andNot .i64 (rd l0_1 x28) (rd l0_1 x21))] rfl (by (try simp only [List.map_toArray, List.map_cons, List.map_nil]); first | done | rfl) ?_; (with_reducible refine (qb.calls k3 _ fs _ HF.out).mono ?_); rintro e w12 ⟨vf, rfl, ho, hb⟩; refine ⟨_, rfl, ?_⟩; obtain ⟨Af, cf, ef⟩ := Kd.zR ho; subst ef; have HCF := Aside0.mk (Kd.zh ho).2.2; have HLF2 := Aside0.mk (Kd.zh ho).2.1; have HS8 := Aside0.mk (HS.out.below hb); have BK8 := Aside0.mk (ze BKe.out hb); have BK7 := Aside0.mk (ze BKa.out hb); have HC8 := Aside0.mk (Kd.zp HCE.out hb); clear ho hb BKe HS BKa HCE hca; have HS := HS8; have BKe := BK8; have BKa := BK7; have HCE := HC8; clear HS8 BK8 BK7 HC8))
                                refine (jn (zt.q k3 l0_1 (rd l0_1 x21) (rd es x37)) _ _ (enters_of Try.func111 (by kernel_rfl) rfl) _ _ fs true _ (zt.pred k3 l0_1 (rd l0_1 x21) (rd es x37) a0_0 _ c0_1 gm ga ge _ HS.out.m BKa.out BKe.out HS.out.C HC.out) HCF.out HLF2.out HLF.out HAny.out).mono ?_
                                rintro e w13 ⟨rfl, hb⟩
                                have HS8 := Aside0.mk (HS.out.below hb)
                                have BK8 := Aside0.mk (ze BKe.out hb)
                                have BK7 := Aside0.mk (ze BKa.out hb)
                                have HC8 := Aside0.mk (Kd.zp HCE.out hb)
                                clear hb BKe HS BKa HCE HCF
                                have HS := HS8
                                have BKe := BK8
                                have BKa := BK7
                                have HCE := HC8
                                clear HS8 BK8 BK7 HC8
                                go_wp2
                                go_roundg k3
                                case measure => have := HK1.out; have := HK2.out; have := HK3.out; omega
                                case rel => exact ⟨wrap64 (x37 + 1), rfl, ⟨by have hh := H1.out; simpa using hh⟩, ⟨by have := HK3.out; omega⟩, HS, BKa, HCE⟩
                              | false =>
                                have hh := H1.out
                                simp only [Bool.false_eq_true, if_false, Option.some.injEq, Prod.mk.injEq] at hh
                                obtain ⟨rfl, rfl, rfl, rfl⟩ := hh
                                clear H1
                                have hne := HNE.out
                                have hne2 := HNE.out.symm
                                go_wp2_with (first
                                  | ((with_reducible refine zi (N := 9) rfl ?_); refine zl ?hg (N := 9) ?hd (cs := #[.int .i64 0]) (t := 3) ?hr ?_; (case hd => rfl); (case hg => rfl); (case hr => exact sqG); intro ge hg w10 hbox hb; have HG4 := Aside0.mk hg; have BKe := Aside0.mk hbox; have HBe := Aside0.mk hb; have hce : w10.cell? ⟨ge, 0, none⟩ = some (.int .i64 0) := (zb BKe.out 0).trans rfl; have hfe := za BKe.out 0; clear hg hbox hb hx3)
                                  | ((with_reducible refine j5 (t := 3) (p := 9) rfl ?_); refine jQ (t := 3) (p := 9) (v := ?vo_w11) (w1 := (w10.setCell ⟨ge, 0, none⟩ (.int .i64 (rd es x37)))) ?hg ?ho ?hn ?hr ?_; (case ho => rfl); (case hg => rfl); (case hn => rfl); (case hr => exact sqG); intro w11 hw; have hp_ := y3 (v := .int .i64 (rd es x37)) HG4.out BKe.out HBe.out; rw [← hw] at hp_; have HS8 := Aside0.mk (HS.out.below hp_.2); have BK8 := Aside0.mk hp_.1; have BK7 := Aside0.mk (ze BKa.out hp_.2); have HC8 := Aside0.mk (Kd.zp HCE.out hp_.2); clear hp_ hw BKe HBe HG4 HS hce hfe BKa HCE; have HS := HS8; have BKe := BK8; have BKa := BK7; have HCE := HC8; clear HS8 BK8 BK7 HC8; have hca : w11.cell? ⟨ga, 0, none⟩ = some (.int .i64 (rd l0_1 x21)) := (zb BKa.out 0).trans rfl)
                                  | ((with_reducible refine zd (f := 110) rfl ?_); refine zn (some 44) rfl rfl Try.func110 (by kernel_rfl) rfl #[.int .i64 (Go.bits .andNot .i64 (rd l0_1 x28) (rd l0_1 x21))] rfl (by (try simp only [List.map_toArray, List.map_cons, List.map_nil]); first | done | rfl) ?_; (with_reducible refine (qb.calls k3 _ fs _ HF.out).mono ?_); rintro e w12 ⟨vf, rfl, ho, hb⟩; refine ⟨_, rfl, ?_⟩; obtain ⟨Af, cf, ef⟩ := Kd.zR ho; subst ef; have HCF := Aside0.mk (Kd.zh ho).2.2; have HLF2 := Aside0.mk (Kd.zh ho).2.1; have HS8 := Aside0.mk (HS.out.below hb); have BK8 := Aside0.mk (ze BKe.out hb); have BK7 := Aside0.mk (ze BKa.out hb); have HC8 := Aside0.mk (Kd.zp HCE.out hb); clear ho hb BKe HS BKa HCE hca; have HS := HS8; have BKe := BK8; have BKa := BK7; have HCE := HC8; clear HS8 BK8 BK7 HC8))
                                refine (jn (zt.q k3 l0_1 (rd l0_1 x21) (rd es x37)) _ _ (enters_of Try.func111 (by kernel_rfl) rfl) _ _ fs false _ (zt.pred k3 l0_1 (rd l0_1 x21) (rd es x37) a0_0 _ c0_1 gm ga ge _ HS.out.m BKa.out BKe.out HS.out.C HC.out) HCF.out HLF2.out HLF.out HAny.out).mono ?_
                                rintro e w13 ⟨rfl, hb⟩
                                have HS8 := Aside0.mk (HS.out.below hb)
                                have BK8 := Aside0.mk (ze BKe.out hb)
                                have BK7 := Aside0.mk (ze BKa.out hb)
                                have HC8 := Aside0.mk (Kd.zp HCE.out hb)
                                clear hb BKe HS BKa HCE HCF
                                have HS := HS8
                                have BKe := BK8
                                have BKa := BK7
                                have HCE := HC8
                                clear HS8 BK8 BK7 HC8
                                have hca : w13.cell? ⟨ga, 0, none⟩ = some (.int .i64 (rd l0_1 x21)) := (zb BKa.out 0).trans rfl
                                have hce : w13.cell? ⟨ge, 0, none⟩ = some (.int .i64 (rd es x37)) := (zb BKe.out 0).trans rfl
                                have hcr0 : w13.cell? ⟨gr, 0, none⟩ = some (.int .i64 0) := (zb HS.out.r 0).trans rfl
                                have hcr1 : w13.cell? ⟨gr, 1, none⟩ = some (.int .i64 0) := (zb HS.out.r 1).trans rfl
                                have hcr2 : w13.cell? ⟨gr, 2, none⟩ = some (.int .i64 0) := (zb HS.out.r 2).trans rfl
                                have hfr0 := za HS.out.r 0
                                have hfr1 := za HS.out.r 1
                                have hfr2 := za HS.out.r 2
                                go_wp2
                                refine bodyPost_ret (qG rfl _ _ gr 50 #[.int .i64 (rd l0_1 x21), .int .i64 (rd l0_1 x28), .int .i64 (rd es x37)] (0, 0) _ rfl (by refine zB (cs := #[.int .i64 (rd l0_1 x21), .int .i64 (rd l0_1 x28), .int .i64 0]) ?_ 2 _ rfl; refine zB (cs := #[.int .i64 (rd l0_1 x21), .int .i64 0, .int .i64 0]) ?_ 1 _ rfl; refine zB (cs := #[.int .i64 0, .int .i64 0, .int .i64 0]) ?_ 0 _ rfl; exact HS.out.r) Try.underlying50 rfl (by kernel_rfl)) rfl ?_
                                exact ⟨rfl, by repeat (first | exact HS.out.B | refine jt ?_ HGr.out)⟩
                            · rw [if_neg c7] at H
                              exact absurd H (by simp)
                          · rw [if_neg c6] at H
                            exact absurd H (by simp)
                        · rw [if_neg c5] at H
                          have H1 := Aside0.mk H
                          clear H
                          have c5b0 : decide (x37 < (es.length : Int)) = false := decide_eq_false c5
                          clear c5
                          go_wp2
                          go_roundg k3
                          case measure => have := HK1.out; have := HK2.out; have := HK3.out; omega
                          case rel => exact ⟨wrap64 (x28 + 1), rfl, H1, ⟨by have := HK2.out; have := HK3.out; omega⟩, HS, BKa⟩
                  · rw [if_neg c4] at H
                    exact absurd H (by simp)
                · rw [if_neg c3] at H
                  have H1 := Aside0.mk H
                  clear H
                  have c3b0 : decide (x28 < (l0_1.length : Int)) = false := decide_eq_false c3
                  clear c3
                  go_wp2
                  go_roundg k2
                  case measure => have := HK1.out; have := HK2.out; omega
                  case rel => exact ⟨wrap64 (x21 + 1), rfl, H1, ⟨by have := HK1.out; have := HK2.out; omega⟩, HS⟩
          · rw [if_neg c2] at H
            exact absurd H (by simp)
        · rw [if_neg c1] at H
          simp only [Option.some.injEq, Prod.mk.injEq] at H
          obtain ⟨rfl, rfl, rfl, rfl⟩ := H
          have c1b0 : decide (x21 < (l0_1.length : Int)) = false := decide_eq_false c1
          clear c1
          have hne := HNE.out
          have hne2 := HNE.out.symm
          have hcr0 : wr.cell? ⟨gr, 0, none⟩ = some (.int .i64 0) := (zb HS.out.r 0).trans rfl
          have hcr1 : wr.cell? ⟨gr, 1, none⟩ = some (.int .i64 0) := (zb HS.out.r 1).trans rfl
          have hcr2 : wr.cell? ⟨gr, 2, none⟩ = some (.int .i64 0) := (zb HS.out.r 2).trans rfl
          have hfr0 := za HS.out.r 0
          have hfr1 := za HS.out.r 1
          have hfr2 := za HS.out.r 2
          go_wp2
          refine bodyPost_ret (qG rfl _ _ gr 50 #[.int .i64 0, .int .i64 0, .int .i64 0] (0, 0) _ rfl (by refine zB (cs := #[.int .i64 0, .int .i64 0, .int .i64 0]) ?_ 2 _ rfl; refine zB (cs := #[.int .i64 0, .int .i64 0, .int .i64 0]) ?_ 1 _ rfl; refine zB (cs := #[.int .i64 0, .int .i64 0, .int .i64 0]) ?_ 0 _ rfl; exact HS.out.r) Try.underlying50 rfl (by kernel_rfl)) rfl ?_
          exact ⟨rfl, by repeat (first | exact HS.out.B | refine jt ?_ HGr.out)⟩
end Go.Proofs.Yteggmbhcnhbamaa.F
end
section
namespace Go.Proofs.Yteggmbhcnhbamaa.F
open Go.RowKit Go.Proofs.YteggmbhcnhbamaaW.PrintWords Go.Proofs.YteggmbhcnhbamaaW.PrintLast Go.Proofs.YteggmbhcnhbamaaW.PrintMore
attribute [local go_sem] qJ qM q2 q4 qy qx qL qK   -- for this text's walks alone
set_option linter.unusedVariables false
set_option linter.unusedSimpArgs false

def zZ.f (k : Nat) (a0_0 : Int) (l0_1 : List Int) : Option (Bool) := (zt.f k a0_0 l0_1).bind fun bt224 => ((zE.f k a0_0 l0_1).bind fun t229 => (if t229 = true then (if (l0_1.length : Int) > 0 then (some (!bt224.2.2.2)) else (some false)) else (some false)))
theorem zZ.calls (k : Nat) (a0_0 : Int) (A0_1 : Option Addr) (c0_1 : Nat) (l0_1 : List Int) (r : Bool) (w : World) (hr0_1 : Kd.C (Kd.int .i64) w A0_1 l0_1.length l0_1) (hc0_1 : l0_1.length ≤ c0_1) (h : zZ.f k a0_0 l0_1 = some r) :
  Calls Try.prog 42 #[.agg #[.int .i64 a0_0, .slice A0_1 l0_1.length c0_1]] w fun e w' => e = .returned (.bool r) ∧ Below w.heap.size w w' := by
 have hu27 := Try.underlying27
 have hu50 := Try.underlying50
 have HR0_1 := Aside0.mk hr0_1
 have HC0_1 := Aside0.mk hc0_1
 clear hr0_1 hc0_1
 have HB := Aside0.mk (Below.refl w.heap.size w)
 have H : ((zt.f k a0_0 l0_1).bind fun bt224 => ((zE.f k a0_0 l0_1).bind fun t229 => (if t229 = true then (if (l0_1.length : Int) > 0 then (some (!bt224.2.2.2)) else (some false)) else (some false)))) = some r := h
 clear h
 replace H := Option.bind_eq_some_iff.mp H
 obtain ⟨⟨t224, t225, t226, t227⟩, A20, H⟩ := H
 replace H : ((zE.f k a0_0 l0_1).bind fun t229 => (if t229 = true then (if (l0_1.length : Int) > 0 then (some (!t227)) else (some false)) else (some false))) = some r := H
 have A2 := Aside0.mk A20
 clear A20
 replace H := Option.bind_eq_some_iff.mp H
 obtain ⟨t229, A30, H⟩ := H
 replace H : (if t229 = true then (if (l0_1.length : Int) > 0 then (some (!t227)) else (some false)) else (some false)) = some r := H
 have A3 := Aside0.mk A30
 clear A30
 by_cases c4 : t229 = true
 ·subst c4
  have H1 : (if (l0_1.length : Int) > 0 then (some (!t227)) else (some false)) = some r := by rw [if_pos rfl] at H; exact H
  clear H
  have H := H1
  clear H1
  by_cases c5 : (l0_1.length : Int) > 0
  ·rw [if_pos c5] at H
   have c5b0 : decide (0 < (l0_1.length : Int)) = true := decide_eq_true c5
   have c5b1 : decide (0 < l0_1.length) = true := decide_eq_true (by omega)
   clear c5
   obtain rfl := Option.some.inj H
   go_enter Try.func42, Try.ntmps42
   go_wp2_with (first | ((with_reducible refine zi (N := 1) rfl ?_); (try (refine jF (by rfl) ?_; dsimp only)); refine zl ?hg (N := 1) ?hd (cs := #[.int .i64 a0_0, .slice A0_1 l0_1.length c0_1]) (t := 27) ?hr ?_; (case hd => rfl); (case hg => rfl); (case hr => exact sqG); intro gb223 hg w6 hbox hb; have n0_ := Aside0.mk (zc sqB hb); have n1_ := Aside0.mk (hbox); have n2_ := Aside0.mk ((sqS hg : w.heap.size ≤ gb223)); have n3_ := Aside0.mk ((sqS hg : w.heap.size ≤ gb223)); clear HB; have HB := n0_; have BK223 := n1_; have GW223 := n2_; have GE223 := n3_; clear n0_ n1_ n2_ n3_; clear hb hbox hg; have hcz7_0 : w6.cell? ⟨gb223, 0, none⟩ = some (.int .i64 a0_0) := (zb BK223.out 0).trans rfl; have hcz7_1 : w6.cell? ⟨gb223, 1, none⟩ = some (.slice A0_1 l0_1.length c0_1) := (zb BK223.out 1).trans rfl; have hfz7_0 := za BK223.out 0; have hfz7_1 := za BK223.out 1) | ((with_reducible refine zd (f := 77) rfl ?_); refine zn (some 7) rfl rfl Try.func77 (by kernel_rfl) rfl #[.agg #[.int .i64 a0_0, .slice A0_1 l0_1.length c0_1]] rfl sqM ?_; (with_reducible refine (zt.calls k a0_0 _ _ l0_1 t224 t225 t226 t227 _ ?side1 ?side2 A2.out).mono ?_); (case side1 => exact sqC (Kd.zp HR0_1.out HB.out)); (case side2 => exact HC0_1.out); rintro e w8 ⟨rfl, hb⟩; refine ⟨_, rfl, ?_⟩; have n0_ := Aside0.mk (ze (g := gb223) (o := .cells #[.int .i64 a0_0, .slice A0_1 l0_1.length c0_1] 27 (0, 0)) (sqK BK223.out) hb); have n1_ := Aside0.mk (zc sqB hb); clear BK223; clear HB; have BK223 := n0_; have HB := n1_; clear n0_ n1_; (try clear hb); (try clear hb2); (try clear hk); (try clear hi)) | ((with_reducible refine zi (N := 3) rfl ?_); (try (refine jF (by rfl) ?_; dsimp only)); refine zl ?hg (N := 3) ?hd (cs := #[.int .i64 0, .int .i64 0, .int .i64 0]) (t := 50) ?hr ?_; (case hd => rfl); (case hg => rfl); (case hr => exact sqG); intro gb228 hg w9 hbox hb; have n0_ := Aside0.mk (ze (g := gb223) (o := .cells #[.int .i64 a0_0, .slice A0_1 l0_1.length c0_1] 27 (0, 0)) (sqK BK223.out) hb); have n1_ := Aside0.mk (zc sqB hb); have n2_ := Aside0.mk (hbox); have n3_ := Aside0.mk ((sqS hg : w.heap.size ≤ gb228)); have n4_ := Aside0.mk ((sqS hg : w.heap.size ≤ gb228)); have n5_ := Aside0.mk ((by rw [hg]; exact Nat.ne_of_lt (zV (g := gb223) (o := .cells #[.int .i64 a0_0, .slice A0_1 l0_1.length c0_1] 27 (0, 0)) (sqK BK223.out)) : gb223 ≠ gb228)); have n6_ := Aside0.mk ((by rw [hg]; exact Nat.ne_of_gt (zV (g := gb223) (o := .cells #[.int .i64 a0_0, .slice A0_1 l0_1.length c0_1] 27 (0, 0)) (sqK BK223.out)) : gb228 ≠ gb223)); clear BK223; clear HB; have BK223 := n0_; have HB := n1_; have BK228 := n2_; have GW228 := n3_; have GE228 := n4_; have NB223_228 := n5_; have NB228_223 := n6_; clear n0_ n1_ n2_ n3_ n4_ n5_ n6_; clear hb hbox hg; have hnb10 := NB228_223.out; have hnc10 := NB223_228.out; have hcz11_0 : w9.cell? ⟨gb228, 0, none⟩ = some (.int .i64 0) := (zb BK228.out 0).trans rfl; have hcz11_1 : w9.cell? ⟨gb228, 1, none⟩ = some (.int .i64 0) := (zb BK228.out 1).trans rfl; have hcz11_2 : w9.cell? ⟨gb228, 2, none⟩ = some (.int .i64 0) := (zb BK228.out 2).trans rfl; have hfz11_0 := za BK228.out 0; have hfz11_1 := za BK228.out 1; have hfz11_2 := za BK228.out 2; have hcz12_0 : w9.cell? ⟨gb223, 0, none⟩ = some (.int .i64 a0_0) := (zb BK223.out 0).trans rfl; have hcz12_1 : w9.cell? ⟨gb223, 1, none⟩ = some (.slice A0_1 l0_1.length c0_1) := (zb BK223.out 1).trans rfl; have hfz12_0 := za BK223.out 0; have hfz12_1 := za BK223.out 1) | ((with_reducible refine zd (f := 52) rfl ?_); refine zn (some 14) rfl rfl Try.func52 (by kernel_rfl) rfl #[.int .i64 a0_0, .slice A0_1 l0_1.length c0_1] rfl sqM ?_; (with_reducible refine (zE.calls k a0_0 _ _ l0_1 true _ ?side1 ?side2 A3.out).mono ?_); (case side1 => exact Kd.zp HR0_1.out sqB); (case side2 => exact HC0_1.out); rintro e w' ⟨rfl, ⟨nd, rfl⟩⟩; refine ⟨_, rfl, ?_⟩))
   go_ret
   exact ⟨sqE, sqB⟩
  ·rw [if_neg c5] at H
   have c5b0 : decide (0 < (l0_1.length : Int)) = false := decide_eq_false c5
   have c5b1 : decide (0 < l0_1.length) = false := decide_eq_false (by omega)
   clear c5
   obtain rfl := Option.some.inj H
   go_enter Try.func42, Try.ntmps42
   go_wp2_with (first | ((with_reducible refine zi (N := 1) rfl ?_); (try (refine jF (by rfl) ?_; dsimp only)); refine zl ?hg (N := 1) ?hd (cs := #[.int .i64 a0_0, .slice A0_1 l0_1.length c0_1]) (t := 27) ?hr ?_; (case hd => rfl); (case hg => rfl); (case hr => exact sqG); intro gb223 hg w13 hbox hb; have n0_ := Aside0.mk (zc sqB hb); have n1_ := Aside0.mk (hbox); have n2_ := Aside0.mk ((sqS hg : w.heap.size ≤ gb223)); have n3_ := Aside0.mk ((sqS hg : w.heap.size ≤ gb223)); clear HB; have HB := n0_; have BK223 := n1_; have GW223 := n2_; have GE223 := n3_; clear n0_ n1_ n2_ n3_; clear hb hbox hg; have hcz14_0 : w13.cell? ⟨gb223, 0, none⟩ = some (.int .i64 a0_0) := (zb BK223.out 0).trans rfl; have hcz14_1 : w13.cell? ⟨gb223, 1, none⟩ = some (.slice A0_1 l0_1.length c0_1) := (zb BK223.out 1).trans rfl; have hfz14_0 := za BK223.out 0; have hfz14_1 := za BK223.out 1) | ((with_reducible refine zd (f := 77) rfl ?_); refine zn (some 7) rfl rfl Try.func77 (by kernel_rfl) rfl #[.agg #[.int .i64 a0_0, .slice A0_1 l0_1.length c0_1]] rfl sqM ?_; (with_reducible refine (zt.calls k a0_0 _ _ l0_1 t224 t225 t226 t227 _ ?side1 ?side2 A2.out).mono ?_); (case side1 => exact sqC (Kd.zp HR0_1.out HB.out)); (case side2 => exact HC0_1.out); rintro e w15 ⟨rfl, hb⟩; refine ⟨_, rfl, ?_⟩; have n0_ := Aside0.mk (ze (g := gb223) (o := .cells #[.int .i64 a0_0, .slice A0_1 l0_1.length c0_1] 27 (0, 0)) (sqK BK223.out) hb); have n1_ := Aside0.mk (zc sqB hb); clear BK223; clear HB; have BK223 := n0_; have HB := n1_; clear n0_ n1_; (try clear hb); (try clear hb2); (try clear hk); (try clear hi)) | ((with_reducible refine zi (N := 3) rfl ?_); (try (refine jF (by rfl) ?_; dsimp only)); refine zl ?hg (N := 3) ?hd (cs := #[.int .i64 0, .int .i64 0, .int .i64 0]) (t := 50) ?hr ?_; (case hd => rfl); (case hg => rfl); (case hr => exact sqG); intro gb228 hg w16 hbox hb; have n0_ := Aside0.mk (ze (g := gb223) (o := .cells #[.int .i64 a0_0, .slice A0_1 l0_1.length c0_1] 27 (0, 0)) (sqK BK223.out) hb); have n1_ := Aside0.mk (zc sqB hb); have n2_ := Aside0.mk (hbox); have n3_ := Aside0.mk ((sqS hg : w.heap.size ≤ gb228)); have n4_ := Aside0.mk ((sqS hg : w.heap.size ≤ gb228)); have n5_ := Aside0.mk ((by rw [hg]; exact Nat.ne_of_lt (zV (g := gb223) (o := .cells #[.int .i64 a0_0, .slice A0_1 l0_1.length c0_1] 27 (0, 0)) (sqK BK223.out)) : gb223 ≠ gb228)); have n6_ := Aside0.mk ((by rw [hg]; exact Nat.ne_of_gt (zV (g := gb223) (o := .cells #[.int .i64 a0_0, .slice A0_1 l0_1.length c0_1] 27 (0, 0)) (sqK BK223.out)) : gb228 ≠ gb223)); clear BK223; clear HB; have BK223 := n0_; have HB := n1_; have BK228 := n2_; have GW228 := n3_; have GE228 := n4_; have NB223_228 := n5_; have NB228_223 := n6_; clear n0_ n1_ n2_ n3_ n4_ n5_ n6_; clear hb hbox hg; have hnb17 := NB228_223.out; have hnc17 := NB223_228.out; have hcz18_0 : w16.cell? ⟨gb228, 0, none⟩ = some (.int .i64 0) := (zb BK228.out 0).trans rfl; have hcz18_1 : w16.cell? ⟨gb228, 1, none⟩ = some (.int .i64 0) := (zb BK228.out 1).trans rfl; have hcz18_2 : w16.cell? ⟨gb228, 2, none⟩ = some (.int .i64 0) := (zb BK228.out 2).trans rfl; have hfz18_0 := za BK228.out 0; have hfz18_1 := za BK228.out 1; have hfz18_2 := za BK228.out 2; have hcz19_0 : w16.cell? ⟨gb223, 0, none⟩ = some (.int .i64 a0_0) := (zb BK223.out 0).trans rfl; have hcz19_1 : w16.cell? ⟨gb223, 1, none⟩ = some (.slice A0_1 l0_1.length c0_1) := (zb BK223.out 1).trans rfl; have hfz19_0 := za BK223.out 0; have hfz19_1 := za BK223.out 1) | ((with_reducible refine zd (f := 52) rfl ?_); refine zn (some 14) rfl rfl Try.func52 (by kernel_rfl) rfl #[.int .i64 a0_0, .slice A0_1 l0_1.length c0_1] rfl sqM ?_; (with_reducible refine (zE.calls k a0_0 _ _ l0_1 true _ ?side1 ?side2 A3.out).mono ?_); (case side1 => exact Kd.zp HR0_1.out sqB); (case side2 => exact HC0_1.out); rintro e w' ⟨rfl, ⟨nd, rfl⟩⟩; refine ⟨_, rfl, ?_⟩))
   go_ret
   exact ⟨sqE, sqB⟩
 ·replace c4 := Bool.eq_false_iff.mpr c4
  subst c4
  have H1 : (some false) = some r := by rw [if_neg (show ¬ (false = true) by decide)] at H; exact H
  clear H
  have H := H1
  clear H1
  obtain rfl := Option.some.inj H
  go_enter Try.func42, Try.ntmps42
  go_wp2_with (first | ((with_reducible refine zi (N := 1) rfl ?_); (try (refine jF (by rfl) ?_; dsimp only)); refine zl ?hg (N := 1) ?hd (cs := #[.int .i64 a0_0, .slice A0_1 l0_1.length c0_1]) (t := 27) ?hr ?_; (case hd => rfl); (case hg => rfl); (case hr => exact sqG); intro gb223 hg w20 hbox hb; have n0_ := Aside0.mk (zc sqB hb); have n1_ := Aside0.mk (hbox); have n2_ := Aside0.mk ((sqS hg : w.heap.size ≤ gb223)); have n3_ := Aside0.mk ((sqS hg : w.heap.size ≤ gb223)); clear HB; have HB := n0_; have BK223 := n1_; have GW223 := n2_; have GE223 := n3_; clear n0_ n1_ n2_ n3_; clear hb hbox hg; have hcz21_0 : w20.cell? ⟨gb223, 0, none⟩ = some (.int .i64 a0_0) := (zb BK223.out 0).trans rfl; have hcz21_1 : w20.cell? ⟨gb223, 1, none⟩ = some (.slice A0_1 l0_1.length c0_1) := (zb BK223.out 1).trans rfl; have hfz21_0 := za BK223.out 0; have hfz21_1 := za BK223.out 1) | ((with_reducible refine zd (f := 77) rfl ?_); refine zn (some 7) rfl rfl Try.func77 (by kernel_rfl) rfl #[.agg #[.int .i64 a0_0, .slice A0_1 l0_1.length c0_1]] rfl sqM ?_; (with_reducible refine (zt.calls k a0_0 _ _ l0_1 t224 t225 t226 t227 _ ?side1 ?side2 A2.out).mono ?_); (case side1 => exact sqC (Kd.zp HR0_1.out HB.out)); (case side2 => exact HC0_1.out); rintro e w22 ⟨rfl, hb⟩; refine ⟨_, rfl, ?_⟩; have n0_ := Aside0.mk (ze (g := gb223) (o := .cells #[.int .i64 a0_0, .slice A0_1 l0_1.length c0_1] 27 (0, 0)) (sqK BK223.out) hb); have n1_ := Aside0.mk (zc sqB hb); clear BK223; clear HB; have BK223 := n0_; have HB := n1_; clear n0_ n1_; (try clear hb); (try clear hb2); (try clear hk); (try clear hi)) | ((with_reducible refine zi (N := 3) rfl ?_); (try (refine jF (by rfl) ?_; dsimp only)); refine zl ?hg (N := 3) ?hd (cs := #[.int .i64 0, .int .i64 0, .int .i64 0]) (t := 50) ?hr ?_; (case hd => rfl); (case hg => rfl); (case hr => exact sqG); intro gb228 hg w23 hbox hb; have n0_ := Aside0.mk (ze (g := gb223) (o := .cells #[.int .i64 a0_0, .slice A0_1 l0_1.length c0_1] 27 (0, 0)) (sqK BK223.out) hb); have n1_ := Aside0.mk (zc sqB hb); have n2_ := Aside0.mk (hbox); have n3_ := Aside0.mk ((sqS hg : w.heap.size ≤ gb228)); have n4_ := Aside0.mk ((sqS hg : w.heap.size ≤ gb228)); have n5_ := Aside0.mk ((by rw [hg]; exact Nat.ne_of_lt (zV (g := gb223) (o := .cells #[.int .i64 a0_0, .slice A0_1 l0_1.length c0_1] 27 (0, 0)) (sqK BK223.out)) : gb223 ≠ gb228)); have n6_ := Aside0.mk ((by rw [hg]; exact Nat.ne_of_gt (zV (g := gb223) (o := .cells #[.int .i64 a0_0, .slice A0_1 l0_1.length c0_1] 27 (0, 0)) (sqK BK223.out)) : gb228 ≠ gb223)); clear BK223; clear HB; have BK223 := n0_; have HB := n1_; have BK228 := n2_; have GW228 := n3_; have GE228 := n4_; have NB223_228 := n5_; have NB228_223 := n6_; clear n0_ n1_ n2_ n3_ n4_ n5_ n6_; clear hb hbox hg; have hnb24 := NB228_223.out; have hnc24 := NB223_228.out; have hcz25_0 : w23.cell? ⟨gb228, 0, none⟩ = some (.int .i64 0) := (zb BK228.out 0).trans rfl; have hcz25_1 : w23.cell? ⟨gb228, 1, none⟩ = some (.int .i64 0) := (zb BK228.out 1).trans rfl; have hcz25_2 : w23.cell? ⟨gb228, 2, none⟩ = some (.int .i64 0) := (zb BK228.out 2).trans rfl; have hfz25_0 := za BK228.out 0; have hfz25_1 := za BK228.out 1; have hfz25_2 := za BK228.out 2; have hcz26_0 : w23.cell? ⟨gb223, 0, none⟩ = some (.int .i64 a0_0) := (zb BK223.out 0).trans rfl; have hcz26_1 : w23.cell? ⟨gb223, 1, none⟩ = some (.slice A0_1 l0_1.length c0_1) := (zb BK223.out 1).trans rfl; have hfz26_0 := za BK223.out 0; have hfz26_1 := za BK223.out 1) | ((with_reducible refine zd (f := 52) rfl ?_); refine zn (some 14) rfl rfl Try.func52 (by kernel_rfl) rfl #[.int .i64 a0_0, .slice A0_1 l0_1.length c0_1] rfl sqM ?_; (with_reducible refine (zE.calls k a0_0 _ _ l0_1 false _ ?side1 ?side2 A3.out).mono ?_); (case side1 => exact Kd.zp HR0_1.out sqB); (case side2 => exact HC0_1.out); rintro e w' ⟨rfl, ⟨nd, rfl⟩⟩; refine ⟨_, rfl, ?_⟩))
  go_ret
  exact ⟨sqE, sqB⟩

end Go.Proofs.Yteggmbhcnhbamaa.F
end
section
namespace Go.Proofs.Yteggmbhcnhbamaa.F
open Go.RowKit Go.Proofs.YteggmbhcnhbamaaW.PrintWords Go.Proofs.YteggmbhcnhbamaaW.PrintLast Go.Proofs.YteggmbhcnhbamaaW.PrintMore
attribute [local go_sem] qJ qM q2 q4 qy qx qL qK   -- for this text's walks alone
set_option linter.unusedVariables false
set_option linter.unusedSimpArgs false

def qF.f (k : Nat) (a0_0 : Int) (l0_1 : List Int) : Option (Int × List Int) := (zZ.f k a0_0 l0_1).bind fun t550 => (if t550 = true then ((zG.f k a0_0 l0_1).bind fun t551 => (some (a0_0, t551))) else (some (0, ([] : List Int))))
def qF.T3 : Bool × List (List Nat × List Nat) := (true, [([], []), ([0], [0]), ([], []), ([2], [2]), ([], []), ([4], [4]), ([3, 5], [3, 5]), ([1, 6], [1, 6]), ([7, 6, 0, 1, 2, 3, 4, 5, 6, 7], [7])])
def qF.B3 : List Nat := [0, 1, 0, 4, 0, 16, 60, 127, 255]
theorem qF.Y0 : vI .any (opsOf Try.f58 3) = qF.T3 := by kernel_rfl
theorem qF.VE : j8 qF.T3.2 qF.B3 = true := by kernel_rfl
theorem qF.calls (k : Nat) (a0_0 : Int) (A0_1 : Option Addr) (c0_1 : Nat) (l0_1 : List Int) (r1 : Int) (r2 : List Int) (w : World) (hr0_1 : Kd.C (Kd.int .i64) w A0_1 l0_1.length l0_1) (hc0_1 : l0_1.length ≤ c0_1) (h : qF.f k a0_0 l0_1 = some (r1, r2)) :
  Calls Try.prog 58 #[.agg #[.int .i64 a0_0, .slice A0_1 l0_1.length c0_1]] w fun e w' => ∃ v1_ : Value, e = .returned (.agg #[.int .i64 r1, v1_]) ∧ Kd.R (Kd.int .i64) 3 w' w.heap.size (fun _ => True) v1_ r2 ∧ Below w.heap.size w w' := by
 have hu27 := Try.underlying27
 have HR0_1 := Aside0.mk hr0_1
 have HC0_1 := Aside0.mk hc0_1
 clear hr0_1 hc0_1
 have HB := Aside0.mk (Below.refl w.heap.size w)
 have H : ((zZ.f k a0_0 l0_1).bind fun t550 => (if t550 = true then ((zG.f k a0_0 l0_1).bind fun t551 => (some (a0_0, t551))) else (some (0, ([] : List Int))))) = some (r1, r2) := h
 clear h
 replace H := Option.bind_eq_some_iff.mp H
 obtain ⟨t550, A20, H⟩ := H
 replace H : (if t550 = true then ((zG.f k a0_0 l0_1).bind fun t551 => (some (a0_0, t551))) else (some (0, ([] : List Int)))) = some (r1, r2) := H
 have A2 := Aside0.mk A20
 clear A20
 by_cases c3 : t550 = true
 ·subst c3
  have H1 : ((zG.f k a0_0 l0_1).bind fun t551 => (some (a0_0, t551))) = some (r1, r2) := by rw [if_pos rfl] at H; exact H
  clear H
  have H := H1
  clear H1
  replace H := Option.bind_eq_some_iff.mp H
  obtain ⟨t551, A40, H⟩ := H
  replace H : (some (a0_0, t551)) = some (r1, r2) := H
  have A4 := Aside0.mk A40
  clear A40
  simp only [Option.some.injEq, Prod.mk.injEq] at H
  obtain ⟨rfl, rfl⟩ := H
  go_enter Try.func58, Try.ntmps58
  try go_wp2_with (first | ((with_reducible refine zi (N := 1) rfl ?_); refine zl ?hg (N := 1) ?hd (cs := #[.int .i64 a0_0, .slice A0_1 l0_1.length c0_1]) (t := 27) ?hr ?_; (case hd => rfl); (case hg => rfl); (case hr => exact sqG); intro gb548 hg w5 hbox hb; have n0_ := Aside0.mk (zc sqB hb); have n1_ := Aside0.mk (hbox); have n2_ := Aside0.mk ((sqS hg : w.heap.size ≤ gb548)); have n3_ := Aside0.mk ((sqS hg : w.heap.size ≤ gb548)); clear HB; have HB := n0_; have BK548 := n1_; have GW548 := n2_; have GE548 := n3_; clear n0_ n1_ n2_ n3_; clear hb hbox hg) | ((with_reducible refine zi (N := 2) rfl ?_); refine zl ?hg (N := 2) ?hd (cs := #[.int .i64 0, .slice none 0 0]) (t := 27) ?hr ?_; (case hd => rfl); (case hg => rfl); (case hr => exact sqG); intro gb549 hg w6 hbox hb; have n0_ := Aside0.mk (ze (g := gb548) (o := .cells #[.int .i64 a0_0, .slice A0_1 l0_1.length c0_1] 27 (0, 0)) (sqK BK548.out) hb); have n1_ := Aside0.mk (zc sqB hb); have n2_ := Aside0.mk (hbox); have n3_ := Aside0.mk ((sqS hg : w.heap.size ≤ gb549)); have n4_ := Aside0.mk ((sqS hg : w.heap.size ≤ gb549)); have n5_ := Aside0.mk ((by rw [hg]; exact Nat.ne_of_lt (zV (g := gb548) (o := .cells #[.int .i64 a0_0, .slice A0_1 l0_1.length c0_1] 27 (0, 0)) (sqK BK548.out)) : gb548 ≠ gb549)); have n6_ := Aside0.mk ((by rw [hg]; exact Nat.ne_of_gt (zV (g := gb548) (o := .cells #[.int .i64 a0_0, .slice A0_1 l0_1.length c0_1] 27 (0, 0)) (sqK BK548.out)) : gb549 ≠ gb548)); clear BK548; clear HB; have BK548 := n0_; have HB := n1_; have BK549 := n2_; have GW549 := n3_; have GE549 := n4_; have NB548_549 := n5_; have NB549_548 := n6_; clear n0_ n1_ n2_ n3_ n4_ n5_ n6_; clear hb hbox hg; have hnb7 := NB548_549.out; have hnc7 := NB549_548.out; have hcz8_0 : w6.cell? ⟨gb548, 0, none⟩ = some (.int .i64 a0_0) := (zb BK548.out 0).trans rfl; have hcz8_1 : w6.cell? ⟨gb548, 1, none⟩ = some (.slice A0_1 l0_1.length c0_1) := (zb BK548.out 1).trans rfl; have hfz8_0 := za BK548.out 0; have hfz8_1 := za BK548.out 1) | ((with_reducible refine zd (f := 42) rfl ?_); refine zn (some 4) rfl rfl Try.func42 (by kernel_rfl) rfl #[.agg #[.int .i64 a0_0, .slice A0_1 l0_1.length c0_1]] rfl sqM ?_; (with_reducible refine (zZ.calls k a0_0 _ _ l0_1 true _ ?side1 ?side2 A2.out).mono ?_); (case side1 => exact sqC (Kd.zp HR0_1.out HB.out)); (case side2 => exact HC0_1.out); rintro e w9 ⟨rfl, hb⟩; refine ⟨_, rfl, ?_⟩; have n0_ := Aside0.mk (ze (g := gb548) (o := .cells #[.int .i64 a0_0, .slice A0_1 l0_1.length c0_1] 27 (0, 0)) (sqK BK548.out) hb); have n1_ := Aside0.mk (ze (g := gb549) (o := .cells #[.int .i64 0, .slice none 0 0] 27 (0, 0)) (sqK BK549.out) hb); have n2_ := Aside0.mk (zc sqB hb); clear BK548; clear BK549; clear HB; have BK548 := n0_; have BK549 := n1_; have HB := n2_; clear n0_ n1_ n2_; (try clear hb); (try clear hb2); (try clear hk); (try clear hi)))
  have n0_ := Aside0.mk (jl BK548.out)
  have n1_ := Aside0.mk (jl BK549.out)
  have n2_ := Aside0.mk (qi HB.out)
  clear BK548
  clear BK549
  clear HB
  have BK548 := n0_
  have BK549 := n1_
  have HB := n2_
  clear n0_ n1_ n2_
  refine jS (n := 9) (S := fun w' => w'.cell? ⟨gb548, 0, none⟩ = some (.int .i64 a0_0) ∧ w'.cell? ⟨gb548, 1, none⟩ = some (.slice A0_1 l0_1.length c0_1)) (ds := []) #[false, false, false, false, false, false, false, false, false] (by kernel_rfl) rfl rfl ⟨(zb BK548.out 0).trans rfl, (zb BK548.out 1).trans rfl⟩ (fun hHeld => ?_); refine jg qF.Y0 qF.VE (fun HT_ HW_ => ?_)
  generalize w9.drew = w10 at BK548 BK549 HB hHeld ⊢
  refine zJ (i := 0) (N := some 7) (v := ?_) (a' := ?_) #[true, false, false, false, false, false, false, false, false] rfl rfl (zx HT_.out (by kernel_rfl)) (fun _ _ _ h => h) (Or.inl ⟨by rfl, ?_⟩) ?_ ?_
  rotate_left
  ·intro w'
   go_simp
   with_reducible rfl
  rotate_left
  ·simp only [Act.put, List.setIfInBounds_toArray, List.set_cons_zero, List.set_cons_succ, zj, zo]
   rfl
  refine zJ (i := 2) (N := some 9) (v := ?_) (a' := ?_) #[true, false, true, false, false, false, false, false, false] rfl rfl (zx HT_.out (by kernel_rfl)) (fun _ _ _ h => h) (Or.inl ⟨by rfl, ?_⟩) ?_ ?_
  rotate_left
  ·intro w'
   go_simp
   with_reducible rfl
  rotate_left
  ·simp only [Act.put, List.setIfInBounds_toArray, List.set_cons_zero, List.set_cons_succ, zj, zo]
   rfl
  refine zJ (i := 4) (N := some 11) (v := ?_) (a' := ?_) #[true, false, true, false, true, false, false, false, false] rfl rfl (zx HT_.out (by kernel_rfl)) (fun _ _ _ h => h) (Or.inl ⟨by rfl, ?_⟩) ?_ ?_
  rotate_left
  ·intro w'
   go_simp
   with_reducible rfl
  rotate_left
  ·simp only [Act.put, List.setIfInBounds_toArray, List.set_cons_zero, List.set_cons_succ, zj, zo]
   rfl
  refine jy (i := 1) (N := some 8) (v := ?_) (a' := ?_) #[true, true, true, false, true, false, false, false, false] rfl rfl (qW HT_.out HW_.out (by kernel_rfl)) (fun _ _ _ h => h) (Or.inl ⟨by rfl, ?_⟩) hHeld ?_ ?_
  rotate_left
  ·rintro w' ⟨s0, s1⟩
   go_simp
   with_reducible rfl
  rotate_left
  ·simp only [Act.put, List.setIfInBounds_toArray, List.set_cons_zero, List.set_cons_succ, zj, zo]
   rfl
  refine jy (i := 3) (N := some 10) (v := ?_) (a' := ?_) #[true, true, true, true, true, false, false, false, false] rfl rfl (qW HT_.out HW_.out (by kernel_rfl)) (fun _ _ _ h => h) (Or.inl ⟨by rfl, ?_⟩) hHeld ?_ ?_
  rotate_left
  ·rintro w' ⟨s0, s1⟩
   go_simp
   with_reducible rfl
  rotate_left
  ·simp only [Act.put, List.setIfInBounds_toArray, List.set_cons_zero, List.set_cons_succ, zj, zo]
   rfl
  refine jy (i := 5) (N := some 12) (v := ?_) (a' := ?_) #[true, true, true, true, true, true, false, false, false] rfl rfl (qW HT_.out HW_.out (by kernel_rfl)) (fun _ _ _ h => h) (Or.inl ⟨by rfl, ?_⟩) hHeld ?_ ?_
  rotate_left
  ·rintro w' ⟨s0, s1⟩
   go_simp
   with_reducible rfl
  rotate_left
  ·simp only [Act.put, List.setIfInBounds_toArray, List.set_cons_zero, List.set_cons_succ, zj, zo]
   rfl
  refine yc (i := 6) (N := some 13) #[true, true, true, true, true, true, true, false, false] rfl rfl (jN HT_.out (by kernel_rfl)) (by decide) (fun K hK => ?_)
  refine yf Try.func73 (by kernel_rfl) rfl #[.int .i64 a0_0, .slice A0_1 l0_1.length c0_1] (by rfl) rfl rfl sqM ?_
  with_reducible refine (zG.calls k a0_0 _ _ l0_1 t551 _ ?side1 ?side2 A4.out).mono ?_
  (case side1 => exact sqC (Kd.zp HR0_1.out HB.out))
  (case side2 => exact HC0_1.out)
  rintro e w11 ⟨v552, rfl, ho0, hb⟩
  refine ⟨_, rfl, ?_⟩
  have n0_ := Aside0.mk (Kd.zD ho0 (zg sqB))
  have n1_ := Aside0.mk (ze (g := gb548) (o := .cells #[.int .i64 a0_0, .slice A0_1 l0_1.length c0_1] 27 (0, 0)) (sqK BK548.out) hb)
  have n2_ := Aside0.mk (ze (g := gb549) (o := .cells #[.int .i64 0, .slice none 0 0] 27 (0, 0)) (sqK BK549.out) hb)
  have n3_ := Aside0.mk (zc sqB hb)
  clear BK548
  clear BK549
  clear HB
  have HO553 := n0_
  have BK548 := n1_
  have BK549 := n2_
  have HB := n3_
  clear n0_ n1_ n2_ n3_
  (try clear hb)
  (try clear hb2)
  (try clear hk)
  (try clear hi)
  (try clear ho0)
  obtain ⟨Ao12, co12, eo12⟩ := Kd.zR HO553.out
  (first | subst eo12 | (injection eo12 with f1_ f2_ f3_; have f4_ := f1_.symm; have f5_ := f3_.symm; clear f1_ f2_ f3_; subst f4_; subst f5_))
  refine hK.out _ _ ⟨(zb BK548.out 0).trans rfl, (zb BK548.out 1).trans rfl⟩ (fun hHeld => ?_)
  clear hK K
  refine vm (a' := ?_) ?_ ?_
  rotate_left
  ·show Act.put _ (some 13) _ = _
   simp only [Act.put, List.setIfInBounds_toArray, List.set_cons_zero, List.set_cons_succ, zj, zo]
   rfl
  refine zJ (i := 7) (N := some 14) (v := ?_) (a' := ?_) #[true, true, true, true, true, true, true, true, false] rfl rfl (zx HT_.out (by kernel_rfl)) (fun _ _ _ h => h) (Or.inl ⟨by rfl, ?_⟩) ?_ ?_
  rotate_left
  ·intro w'
   go_simp
   with_reducible rfl
  rotate_left
  ·simp only [Act.put, List.setIfInBounds_toArray, List.set_cons_zero, List.set_cons_succ, zj, zo]
   rfl
  refine yc (i := 8) (N := none) #[true, true, true, true, true, true, true, true, true] rfl rfl (jN HT_.out (by kernel_rfl)) (by decide) (fun K hK => ?_)
  have hs13 : w11.cell? ⟨gb549, 0, none⟩ = some (.int .i64 0) := (zb BK549.out 0).trans rfl
  have hfs13 := za BK549.out 0
  have hns13_0 := NB548_549.out
  have hms13_0 := NB549_548.out
  have hs14 : w11.cell? ⟨gb549, 1, none⟩ = some (.slice none 0 0) := (zb BK549.out 1).trans rfl
  have hfs14 := za BK549.out 1
  have hns14_0 := NB548_549.out
  have hms14_0 := NB549_548.out
  refine za7 (w1 := ?_) (by rfl) rfl ?_ ?_
  rotate_left
  ·go_simp
   rfl
  refine hK.out _ _ ⟨((cell_far (p := ⟨gb549, _, none⟩) NB548_549.out _).trans (((cell_far (p := ⟨gb549, _, none⟩) NB548_549.out _).trans (hHeld.1)))), ((cell_far (p := ⟨gb549, _, none⟩) NB548_549.out _).trans (((cell_far (p := ⟨gb549, _, none⟩) NB548_549.out _).trans (hHeld.2))))⟩ (fun hHeld => ?_)
  clear hK K
  refine vu (jC HT_.out (by kernel_rfl)) ?_
  try go_wp2
  refine bodyPost_ret (results_cell_row rfl _ _ gb549 27 #[.int .i64 a0_0, .slice Ao12 t551.length co12] (0, 0) _ rfl (by refine sqK ?_; refine zB (cs := #[.int .i64 a0_0, .slice none 0 0]) ?_ 1 _ rfl; refine sqK ?_; refine zB (cs := #[.int .i64 0, .slice none 0 0]) ?_ 0 _ rfl; refine sqK ?_; exact BK549.out) Try.underlying27 rfl (by kernel_rfl)) rfl ?_
  exact ⟨_, sqE, by refine sqR ?_; exact Kd.zu (Kd.zC (p := ⟨gb549, 1, none⟩) (Kd.zC (p := ⟨gb549, 0, none⟩) (Kd.zK HO553.out BK549.out (by decide)) (fun _ hk => hk.2) (.int .i64 a0_0)) (fun _ hk => hk.2) (.slice Ao12 t551.length co12)) (fun _ hk => trivial), sqB⟩
 ·replace c3 := Bool.eq_false_iff.mpr c3
  subst c3
  have H1 : (some (0, ([] : List Int))) = some (r1, r2) := by rw [if_neg (show ¬ (false = true) by decide)] at H; exact H
  clear H
  have H := H1
  clear H1
  simp only [Option.some.injEq, Prod.mk.injEq] at H
  obtain ⟨rfl, rfl⟩ := H
  go_enter Try.func58, Try.ntmps58
  go_wp2_with (first | ((with_reducible refine zi (N := 1) rfl ?_); refine zl ?hg (N := 1) ?hd (cs := #[.int .i64 a0_0, .slice A0_1 l0_1.length c0_1]) (t := 27) ?hr ?_; (case hd => rfl); (case hg => rfl); (case hr => exact sqG); intro gb548 hg w15 hbox hb; have n0_ := Aside0.mk (zc sqB hb); have n1_ := Aside0.mk (hbox); have n2_ := Aside0.mk ((sqS hg : w.heap.size ≤ gb548)); have n3_ := Aside0.mk ((sqS hg : w.heap.size ≤ gb548)); clear HB; have HB := n0_; have BK548 := n1_; have GW548 := n2_; have GE548 := n3_; clear n0_ n1_ n2_ n3_; clear hb hbox hg) | ((with_reducible refine zi (N := 2) rfl ?_); refine zl ?hg (N := 2) ?hd (cs := #[.int .i64 0, .slice none 0 0]) (t := 27) ?hr ?_; (case hd => rfl); (case hg => rfl); (case hr => exact sqG); intro gb549 hg w16 hbox hb; have n0_ := Aside0.mk (ze (g := gb548) (o := .cells #[.int .i64 a0_0, .slice A0_1 l0_1.length c0_1] 27 (0, 0)) (sqK BK548.out) hb); have n1_ := Aside0.mk (zc sqB hb); have n2_ := Aside0.mk (hbox); have n3_ := Aside0.mk ((sqS hg : w.heap.size ≤ gb549)); have n4_ := Aside0.mk ((sqS hg : w.heap.size ≤ gb549)); have n5_ := Aside0.mk ((by rw [hg]; exact Nat.ne_of_lt (zV (g := gb548) (o := .cells #[.int .i64 a0_0, .slice A0_1 l0_1.length c0_1] 27 (0, 0)) (sqK BK548.out)) : gb548 ≠ gb549)); have n6_ := Aside0.mk ((by rw [hg]; exact Nat.ne_of_gt (zV (g := gb548) (o := .cells #[.int .i64 a0_0, .slice A0_1 l0_1.length c0_1] 27 (0, 0)) (sqK BK548.out)) : gb549 ≠ gb548)); clear BK548; clear HB; have BK548 := n0_; have HB := n1_; have BK549 := n2_; have GW549 := n3_; have GE549 := n4_; have NB548_549 := n5_; have NB549_548 := n6_; clear n0_ n1_ n2_ n3_ n4_ n5_ n6_; clear hb hbox hg; have hnb17 := NB548_549.out; have hnc17 := NB549_548.out; have hcz18_0 : w16.cell? ⟨gb548, 0, none⟩ = some (.int .i64 a0_0) := (zb BK548.out 0).trans rfl; have hcz18_1 : w16.cell? ⟨gb548, 1, none⟩ = some (.slice A0_1 l0_1.length c0_1) := (zb BK548.out 1).trans rfl; have hfz18_0 := za BK548.out 0; have hfz18_1 := za BK548.out 1) | ((with_reducible refine zd (f := 42) rfl ?_); refine zn (some 4) rfl rfl Try.func42 (by kernel_rfl) rfl #[.agg #[.int .i64 a0_0, .slice A0_1 l0_1.length c0_1]] rfl sqM ?_; (with_reducible refine (zZ.calls k a0_0 _ _ l0_1 false _ ?side1 ?side2 A2.out).mono ?_); (case side1 => exact sqC (Kd.zp HR0_1.out HB.out)); (case side2 => exact HC0_1.out); rintro e w19 ⟨rfl, hb⟩; refine ⟨_, rfl, ?_⟩; have n0_ := Aside0.mk (ze (g := gb548) (o := .cells #[.int .i64 a0_0, .slice A0_1 l0_1.length c0_1] 27 (0, 0)) (sqK BK548.out) hb); have n1_ := Aside0.mk (ze (g := gb549) (o := .cells #[.int .i64 0, .slice none 0 0] 27 (0, 0)) (sqK BK549.out) hb); have n2_ := Aside0.mk (zc sqB hb); clear BK548; clear BK549; clear HB; have BK548 := n0_; have BK549 := n1_; have HB := n2_; clear n0_ n1_ n2_; (try clear hb); (try clear hb2); (try clear hk); (try clear hi); have hcz20_0 : w19.cell? ⟨gb549, 0, none⟩ = some (.int .i64 0) := (zb BK549.out 0).trans rfl; have hcz20_1 : w19.cell? ⟨gb549, 1, none⟩ = some (.slice none 0 0) := (zb BK549.out 1).trans rfl; have hfz20_0 := za BK549.out 0; have hfz20_1 := za BK549.out 1))
  refine bodyPost_ret (results_cell_row rfl _ _ gb549 27 #[.int .i64 0, .slice none 0 0] (0, 0) _ rfl (by refine sqK ?_; refine zB (cs := #[.int .i64 0, .slice none 0 0]) ?_ 1 _ rfl; refine sqK ?_; refine zB (cs := #[.int .i64 0, .slice none 0 0]) ?_ 0 _ rfl; refine sqK ?_; exact BK549.out) Try.underlying27 rfl (by kernel_rfl)) rfl ?_
  exact ⟨_, sqE, sqN, sqB⟩

end Go.Proofs.Yteggmbhcnhbamaa.F
end
section
namespace Go.Proofs.Yteggmbhcnhbamaa.F
open Go.RowKit Go.Proofs.YteggmbhcnhbamaaW.PrintWords Go.Proofs.YteggmbhcnhbamaaW.PrintLast Go.Proofs.YteggmbhcnhbamaaW.PrintMore
attribute [local go_sem] qJ qM q2 q4 qy qx qL qK   -- for this text's walks alone
set_option linter.unusedVariables false
set_option linter.unusedSimpArgs false

def jK.f (a0 : Int) : Option (Int) := some (Go.bits .and .i64 (wrap64 (IntKind.u64.wrap ((IntKind.u64.wrap ((IntKind.u64.wrap ((Go.bits .and .u64 (IntKind.u64.wrap (((IntKind.u64.wrap ((Go.bits .and .u64 ((IntKind.u64.wrap ((Go.bits .and .u64 (a0 / 2) 6148914691236517205) + (Go.bits .and .u64 a0 6148914691236517205))) / 4) 3689348814741910323) + (Go.bits .and .u64 (IntKind.u64.wrap ((Go.bits .and .u64 (a0 / 2) 6148914691236517205) + (Go.bits .and .u64 a0 6148914691236517205))) 3689348814741910323))) / 16) + (IntKind.u64.wrap ((Go.bits .and .u64 ((IntKind.u64.wrap ((Go.bits .and .u64 (a0 / 2) 6148914691236517205) + (Go.bits .and .u64 a0 6148914691236517205))) / 4) 3689348814741910323) + (Go.bits .and .u64 (IntKind.u64.wrap ((Go.bits .and .u64 (a0 / 2) 6148914691236517205) + (Go.bits .and .u64 a0 6148914691236517205))) 3689348814741910323))))) 1085102592571150095) + ((Go.bits .and .u64 (IntKind.u64.wrap (((IntKind.u64.wrap ((Go.bits .and .u64 ((IntKind.u64.wrap ((Go.bits .and .u64 (a0 / 2) 6148914691236517205) + (Go.bits .and .u64 a0 6148914691236517205))) / 4) 3689348814741910323) + (Go.bits .and .u64 (IntKind.u64.wrap ((Go.bits .and .u64 (a0 / 2) 6148914691236517205) + (Go.bits .and .u64 a0 6148914691236517205))) 3689348814741910323))) / 16) + (IntKind.u64.wrap ((Go.bits .and .u64 ((IntKind.u64.wrap ((Go.bits .and .u64 (a0 / 2) 6148914691236517205) + (Go.bits .and .u64 a0 6148914691236517205))) / 4) 3689348814741910323) + (Go.bits .and .u64 (IntKind.u64.wrap ((Go.bits .and .u64 (a0 / 2) 6148914691236517205) + (Go.bits .and .u64 a0 6148914691236517205))) 3689348814741910323))))) 1085102592571150095) / 256))) + ((IntKind.u64.wrap ((Go.bits .and .u64 (IntKind.u64.wrap (((IntKind.u64.wrap ((Go.bits .and .u64 ((IntKind.u64.wrap ((Go.bits .and .u64 (a0 / 2) 6148914691236517205) + (Go.bits .and .u64 a0 6148914691236517205))) / 4) 3689348814741910323) + (Go.bits .and .u64 (IntKind.u64.wrap ((Go.bits .and .u64 (a0 / 2) 6148914691236517205) + (Go.bits .and .u64 a0 6148914691236517205))) 3689348814741910323))) / 16) + (IntKind.u64.wrap ((Go.bits .and .u64 ((IntKind.u64.wrap ((Go.bits .and .u64 (a0 / 2) 6148914691236517205) + (Go.bits .and .u64 a0 6148914691236517205))) / 4) 3689348814741910323) + (Go.bits .and .u64 (IntKind.u64.wrap ((Go.bits .and .u64 (a0 / 2) 6148914691236517205) + (Go.bits .and .u64 a0 6148914691236517205))) 3689348814741910323))))) 1085102592571150095) + ((Go.bits .and .u64 (IntKind.u64.wrap (((IntKind.u64.wrap ((Go.bits .and .u64 ((IntKind.u64.wrap ((Go.bits .and .u64 (a0 / 2) 6148914691236517205) + (Go.bits .and .u64 a0 6148914691236517205))) / 4) 3689348814741910323) + (Go.bits .and .u64 (IntKind.u64.wrap ((Go.bits .and .u64 (a0 / 2) 6148914691236517205) + (Go.bits .and .u64 a0 6148914691236517205))) 3689348814741910323))) / 16) + (IntKind.u64.wrap ((Go.bits .and .u64 ((IntKind.u64.wrap ((Go.bits .and .u64 (a0 / 2) 6148914691236517205) + (Go.bits .and .u64 a0 6148914691236517205))) / 4) 3689348814741910323) + (Go.bits .and .u64 (IntKind.u64.wrap ((Go.bits .and .u64 (a0 / 2) 6148914691236517205) + (Go.bits .and .u64 a0 6148914691236517205))) 3689348814741910323))))) 1085102592571150095) / 256))) / 65536))) + ((IntKind.u64.wrap ((IntKind.u64.wrap ((Go.bits .and .u64 (IntKind.u64.wrap (((IntKind.u64.wrap ((Go.bits .and .u64 ((IntKind.u64.wrap ((Go.bits .and .u64 (a0 / 2) 6148914691236517205) + (Go.bits .and .u64 a0 6148914691236517205))) / 4) 3689348814741910323) + (Go.bits .and .u64 (IntKind.u64.wrap ((Go.bits .and .u64 (a0 / 2) 6148914691236517205) + (Go.bits .and .u64 a0 6148914691236517205))) 3689348814741910323))) / 16) + (IntKind.u64.wrap ((Go.bits .and .u64 ((IntKind.u64.wrap ((Go.bits .and .u64 (a0 / 2) 6148914691236517205) + (Go.bits .and .u64 a0 6148914691236517205))) / 4) 3689348814741910323) + (Go.bits .and .u64 (IntKind.u64.wrap ((Go.bits .and .u64 (a0 / 2) 6148914691236517205) + (Go.bits .and .u64 a0 6148914691236517205))) 3689348814741910323))))) 1085102592571150095) + ((Go.bits .and .u64 (IntKind.u64.wrap (((IntKind.u64.wrap ((Go.bits .and .u64 ((IntKind.u64.wrap ((Go.bits .and .u64 (a0 / 2) 6148914691236517205) + (Go.bits .and .u64 a0 6148914691236517205))) / 4) 3689348814741910323) + (Go.bits .and .u64 (IntKind.u64.wrap ((Go.bits .and .u64 (a0 / 2) 6148914691236517205) + (Go.bits .and .u64 a0 6148914691236517205))) 3689348814741910323))) / 16) + (IntKind.u64.wrap ((Go.bits .and .u64 ((IntKind.u64.wrap ((Go.bits .and .u64 (a0 / 2) 6148914691236517205) + (Go.bits .and .u64 a0 6148914691236517205))) / 4) 3689348814741910323) + (Go.bits .and .u64 (IntKind.u64.wrap ((Go.bits .and .u64 (a0 / 2) 6148914691236517205) + (Go.bits .and .u64 a0 6148914691236517205))) 3689348814741910323))))) 1085102592571150095) / 256))) + ((IntKind.u64.wrap ((Go.bits .and .u64 (IntKind.u64.wrap (((IntKind.u64.wrap ((Go.bits .and .u64 ((IntKind.u64.wrap ((Go.bits .and .u64 (a0 / 2) 6148914691236517205) + (Go.bits .and .u64 a0 6148914691236517205))) / 4) 3689348814741910323) + (Go.bits .and .u64 (IntKind.u64.wrap ((Go.bits .and .u64 (a0 / 2) 6148914691236517205) + (Go.bits .and .u64 a0 6148914691236517205))) 3689348814741910323))) / 16) + (IntKind.u64.wrap ((Go.bits .and .u64 ((IntKind.u64.wrap ((Go.bits .and .u64 (a0 / 2) 6148914691236517205) + (Go.bits .and .u64 a0 6148914691236517205))) / 4) 3689348814741910323) + (Go.bits .and .u64 (IntKind.u64.wrap ((Go.bits .and .u64 (a0 / 2) 6148914691236517205) + (Go.bits .and .u64 a0 6148914691236517205))) 3689348814741910323))))) 1085102592571150095) + ((Go.bits .and .u64 (IntKind.u64.wrap (((IntKind.u64.wrap ((Go.bits .and .u64 ((IntKind.u64.wrap ((Go.bits .and .u64 (a0 / 2) 6148914691236517205) + (Go.bits .and .u64 a0 6148914691236517205))) / 4) 3689348814741910323) + (Go.bits .and .u64 (IntKind.u64.wrap ((Go.bits .and .u64 (a0 / 2) 6148914691236517205) + (Go.bits .and .u64 a0 6148914691236517205))) 3689348814741910323))) / 16) + (IntKind.u64.wrap ((Go.bits .and .u64 ((IntKind.u64.wrap ((Go.bits .and .u64 (a0 / 2) 6148914691236517205) + (Go.bits .and .u64 a0 6148914691236517205))) / 4) 3689348814741910323) + (Go.bits .and .u64 (IntKind.u64.wrap ((Go.bits .and .u64 (a0 / 2) 6148914691236517205) + (Go.bits .and .u64 a0 6148914691236517205))) 3689348814741910323))))) 1085102592571150095) / 256))) / 65536))) / 4294967296)))) 127)
theorem jK.calls (a0 : Int) (r : Int) (w : World) (h : jK.f a0 = some r) :
  Calls Try.prog 117 #[.int .u64 a0] w fun e w' => e = .returned (.int .i64 r) ∧ zm w w' := by
 have H : (some (Go.bits .and .i64 (wrap64 (IntKind.u64.wrap ((IntKind.u64.wrap ((IntKind.u64.wrap ((Go.bits .and .u64 (IntKind.u64.wrap (((IntKind.u64.wrap ((Go.bits .and .u64 ((IntKind.u64.wrap ((Go.bits .and .u64 (a0 / 2) 6148914691236517205) + (Go.bits .and .u64 a0 6148914691236517205))) / 4) 3689348814741910323) + (Go.bits .and .u64 (IntKind.u64.wrap ((Go.bits .and .u64 (a0 / 2) 6148914691236517205) + (Go.bits .and .u64 a0 6148914691236517205))) 3689348814741910323))) / 16) + (IntKind.u64.wrap ((Go.bits .and .u64 ((IntKind.u64.wrap ((Go.bits .and .u64 (a0 / 2) 6148914691236517205) + (Go.bits .and .u64 a0 6148914691236517205))) / 4) 3689348814741910323) + (Go.bits .and .u64 (IntKind.u64.wrap ((Go.bits .and .u64 (a0 / 2) 6148914691236517205) + (Go.bits .and .u64 a0 6148914691236517205))) 3689348814741910323))))) 1085102592571150095) + ((Go.bits .and .u64 (IntKind.u64.wrap (((IntKind.u64.wrap ((Go.bits .and .u64 ((IntKind.u64.wrap ((Go.bits .and .u64 (a0 / 2) 6148914691236517205) + (Go.bits .and .u64 a0 6148914691236517205))) / 4) 3689348814741910323) + (Go.bits .and .u64 (IntKind.u64.wrap ((Go.bits .and .u64 (a0 / 2) 6148914691236517205) + (Go.bits .and .u64 a0 6148914691236517205))) 3689348814741910323))) / 16) + (IntKind.u64.wrap ((Go.bits .and .u64 ((IntKind.u64.wrap ((Go.bits .and .u64 (a0 / 2) 6148914691236517205) + (Go.bits .and .u64 a0 6148914691236517205))) / 4) 3689348814741910323) + (Go.bits .and .u64 (IntKind.u64.wrap ((Go.bits .and .u64 (a0 / 2) 6148914691236517205) + (Go.bits .and .u64 a0 6148914691236517205))) 3689348814741910323))))) 1085102592571150095) / 256))) + ((IntKind.u64.wrap ((Go.bits .and .u64 (IntKind.u64.wrap (((IntKind.u64.wrap ((Go.bits .and .u64 ((IntKind.u64.wrap ((Go.bits .and .u64 (a0 / 2) 6148914691236517205) + (Go.bits .and .u64 a0 6148914691236517205))) / 4) 3689348814741910323) + (Go.bits .and .u64 (IntKind.u64.wrap ((Go.bits .and .u64 (a0 / 2) 6148914691236517205) + (Go.bits .and .u64 a0 6148914691236517205))) 3689348814741910323))) / 16) + (IntKind.u64.wrap ((Go.bits .and .u64 ((IntKind.u64.wrap ((Go.bits .and .u64 (a0 / 2) 6148914691236517205) + (Go.bits .and .u64 a0 6148914691236517205))) / 4) 3689348814741910323) + (Go.bits .and .u64 (IntKind.u64.wrap ((Go.bits .and .u64 (a0 / 2) 6148914691236517205) + (Go.bits .and .u64 a0 6148914691236517205))) 3689348814741910323))))) 1085102592571150095) + ((Go.bits .and .u64 (IntKind.u64.wrap (((IntKind.u64.wrap ((Go.bits .and .u64 ((IntKind.u64.wrap ((Go.bits .and .u64 (a0 / 2) 6148914691236517205) + (Go.bits .and .u64 a0 6148914691236517205))) / 4) 3689348814741910323) + (Go.bits .and .u64 (IntKind.u64.wrap ((Go.bits .and .u64 (a0 / 2) 6148914691236517205) + (Go.bits .and .u64 a0 6148914691236517205))) 3689348814741910323))) / 16) + (IntKind.u64.wrap ((Go.bits .and .u64 ((IntKind.u64.wrap ((Go.bits .and .u64 (a0 / 2) 6148914691236517205) + (Go.bits .and .u64 a0 6148914691236517205))) / 4) 3689348814741910323) + (Go.bits .and .u64 (IntKind.u64.wrap ((Go.bits .and .u64 (a0 / 2) 6148914691236517205) + (Go.bits .and .u64 a0 6148914691236517205))) 3689348814741910323))))) 1085102592571150095) / 256))) / 65536))) + ((IntKind.u64.wrap ((IntKind.u64.wrap ((Go.bits .and .u64 (IntKind.u64.wrap (((IntKind.u64.wrap ((Go.bits .and .u64 ((IntKind.u64.wrap ((Go.bits .and .u64 (a0 / 2) 6148914691236517205) + (Go.bits .and .u64 a0 6148914691236517205))) / 4) 3689348814741910323) + (Go.bits .and .u64 (IntKind.u64.wrap ((Go.bits .and .u64 (a0 / 2) 6148914691236517205) + (Go.bits .and .u64 a0 6148914691236517205))) 3689348814741910323))) / 16) + (IntKind.u64.wrap ((Go.bits .and .u64 ((IntKind.u64.wrap ((Go.bits .and .u64 (a0 / 2) 6148914691236517205) + (Go.bits .and .u64 a0 6148914691236517205))) / 4) 3689348814741910323) + (Go.bits .and .u64 (IntKind.u64.wrap ((Go.bits .and .u64 (a0 / 2) 6148914691236517205) + (Go.bits .and .u64 a0 6148914691236517205))) 3689348814741910323))))) 1085102592571150095) + ((Go.bits .and .u64 (IntKind.u64.wrap (((IntKind.u64.wrap ((Go.bits .and .u64 ((IntKind.u64.wrap ((Go.bits .and .u64 (a0 / 2) 6148914691236517205) + (Go.bits .and .u64 a0 6148914691236517205))) / 4) 3689348814741910323) + (Go.bits .and .u64 (IntKind.u64.wrap ((Go.bits .and .u64 (a0 / 2) 6148914691236517205) + (Go.bits .and .u64 a0 6148914691236517205))) 3689348814741910323))) / 16) + (IntKind.u64.wrap ((Go.bits .and .u64 ((IntKind.u64.wrap ((Go.bits .and .u64 (a0 / 2) 6148914691236517205) + (Go.bits .and .u64 a0 6148914691236517205))) / 4) 3689348814741910323) + (Go.bits .and .u64 (IntKind.u64.wrap ((Go.bits .and .u64 (a0 / 2) 6148914691236517205) + (Go.bits .and .u64 a0 6148914691236517205))) 3689348814741910323))))) 1085102592571150095) / 256))) + ((IntKind.u64.wrap ((Go.bits .and .u64 (IntKind.u64.wrap (((IntKind.u64.wrap ((Go.bits .and .u64 ((IntKind.u64.wrap ((Go.bits .and .u64 (a0 / 2) 6148914691236517205) + (Go.bits .and .u64 a0 6148914691236517205))) / 4) 3689348814741910323) + (Go.bits .and .u64 (IntKind.u64.wrap ((Go.bits .and .u64 (a0 / 2) 6148914691236517205) + (Go.bits .and .u64 a0 6148914691236517205))) 3689348814741910323))) / 16) + (IntKind.u64.wrap ((Go.bits .and .u64 ((IntKind.u64.wrap ((Go.bits .and .u64 (a0 / 2) 6148914691236517205) + (Go.bits .and .u64 a0 6148914691236517205))) / 4) 3689348814741910323) + (Go.bits .and .u64 (IntKind.u64.wrap ((Go.bits .and .u64 (a0 / 2) 6148914691236517205) + (Go.bits .and .u64 a0 6148914691236517205))) 3689348814741910323))))) 1085102592571150095) + ((Go.bits .and .u64 (IntKind.u64.wrap (((IntKind.u64.wrap ((Go.bits .and .u64 ((IntKind.u64.wrap ((Go.bits .and .u64 (a0 / 2) 6148914691236517205) + (Go.bits .and .u64 a0 6148914691236517205))) / 4) 3689348814741910323) + (Go.bits .and .u64 (IntKind.u64.wrap ((Go.bits .and .u64 (a0 / 2) 6148914691236517205) + (Go.bits .and .u64 a0 6148914691236517205))) 3689348814741910323))) / 16) + (IntKind.u64.wrap ((Go.bits .and .u64 ((IntKind.u64.wrap ((Go.bits .and .u64 (a0 / 2) 6148914691236517205) + (Go.bits .and .u64 a0 6148914691236517205))) / 4) 3689348814741910323) + (Go.bits .and .u64 (IntKind.u64.wrap ((Go.bits .and .u64 (a0 / 2) 6148914691236517205) + (Go.bits .and .u64 a0 6148914691236517205))) 3689348814741910323))))) 1085102592571150095) / 256))) / 65536))) / 4294967296)))) 127)) = some r := h
 clear h
 obtain rfl := Option.some.inj H
 go_enter Try.func117, Try.ntmps117
 go_wp2
 go_ret
 exact ⟨sqD, by repeat (first | exact zm.refl _ | apply zm.step)⟩

end Go.Proofs.Yteggmbhcnhbamaa.F
end
section
namespace Go.Proofs.Yteggmbhcnhbamaa.F
open Go.RowKit Go.Proofs.YteggmbhcnhbamaaW.PrintWords Go.Proofs.YteggmbhcnhbamaaW.PrintLast Go.Proofs.YteggmbhcnhbamaaW.PrintMore
attribute [local go_sem] qJ qM q2 q4 qy qx qL qK   -- for this text's walks alone
set_option linter.unusedVariables false
set_option linter.unusedSimpArgs false

def jB.f (a0 : Int) : Option (Int) := (jK.f a0).bind fun t450 => (some t450)
theorem jB.calls (a0 : Int) (r : Int) (w : World) (h : jB.f a0 = some r) :
  Calls Try.prog 96 #[.int .u64 a0] w fun e w' => e = .returned (.int .i64 r) ∧ zm w w' := by
 have H : ((jK.f a0).bind fun t450 => (some t450)) = some r := h
 clear h
 replace H := Option.bind_eq_some_iff.mp H
 obtain ⟨t450, A20, H⟩ := H
 replace H : (some t450) = some r := H
 have A2 := Aside0.mk A20
 clear A20
 obtain rfl := Option.some.inj H
 go_enter Try.func96, Try.ntmps96
 go_wp2_with (first | ((with_reducible refine zd (f := 117) rfl ?_); refine zn (some 7) rfl rfl Try.func117 (by kernel_rfl) rfl #[.int .u64 a0] rfl sqM ?_; (with_reducible refine (jK.calls a0 t450 _ A2.out).mono ?_); rintro e w' ⟨rfl, ⟨nd, rfl⟩⟩; refine ⟨_, rfl, ?_⟩))
 go_ret
 exact ⟨sqD, by repeat (first | exact zm.refl _ | apply zm.step)⟩

def js.f (a0 : Int) : Option (Int) := (qH.f a0).bind fun t451 => (if t451 = true then ((jB.f (IntKind.u64.wrap (a0))).bind fun t452 => (some t452)) else (some 0))
theorem js.calls (a0 : Int) (r : Int) (w : World) (h : js.f a0 = some r) :
  Calls Try.prog 62 #[.int .i64 a0] w fun e w' => e = .returned (.int .i64 r) ∧ zm w w' := by
 have H : ((qH.f a0).bind fun t451 => (if t451 = true then ((jB.f (IntKind.u64.wrap (a0))).bind fun t452 => (some t452)) else (some 0))) = some r := h
 clear h
 replace H := Option.bind_eq_some_iff.mp H
 obtain ⟨t451, A20, H⟩ := H
 replace H : (if t451 = true then ((jB.f (IntKind.u64.wrap (a0))).bind fun t452 => (some t452)) else (some 0)) = some r := H
 have A2 := Aside0.mk A20
 clear A20
 by_cases c3 : t451 = true
 ·subst c3
  have H1 : ((jB.f (IntKind.u64.wrap (a0))).bind fun t452 => (some t452)) = some r := by rw [if_pos rfl] at H; exact H
  clear H
  have H := H1
  clear H1
  replace H := Option.bind_eq_some_iff.mp H
  obtain ⟨t452, A40, H⟩ := H
  replace H : (some t452) = some r := H
  have A4 := Aside0.mk A40
  clear A40
  obtain rfl := Option.some.inj H
  go_enter Try.func62, Try.ntmps62
  go_wp2_with (first | ((with_reducible refine zd (f := 80) rfl ?_); refine zn (some 4) rfl rfl Try.func80 (by kernel_rfl) rfl #[.int .i64 a0] rfl sqM ?_; (with_reducible refine (qH.calls a0 true _ A2.out).mono ?_); rintro e w' ⟨rfl, ⟨nd, rfl⟩⟩; refine ⟨_, rfl, ?_⟩) | ((with_reducible refine zd (f := 96) rfl ?_); refine zn (some 8) rfl rfl Try.func96 (by kernel_rfl) rfl #[.int .u64 (IntKind.u64.wrap (a0))] rfl sqM ?_; (with_reducible refine (jB.calls (IntKind.u64.wrap (a0)) t452 _ A4.out).mono ?_); rintro e w' ⟨rfl, ⟨nd, rfl⟩⟩; refine ⟨_, rfl, ?_⟩))
  go_ret
  exact ⟨sqD, by repeat (first | exact zm.refl _ | apply zm.step)⟩
 ·replace c3 := Bool.eq_false_iff.mpr c3
  subst c3
  have H1 : (some 0) = some r := by rw [if_neg (show ¬ (false = true) by decide)] at H; exact H
  clear H
  have H := H1
  clear H1
  obtain rfl := Option.some.inj H
  go_enter Try.func62, Try.ntmps62
  go_wp2_with (first | ((with_reducible refine zd (f := 80) rfl ?_); refine zn (some 4) rfl rfl Try.func80 (by kernel_rfl) rfl #[.int .i64 a0] rfl sqM ?_; (with_reducible refine (qH.calls a0 false _ A2.out).mono ?_); rintro e w' ⟨rfl, ⟨nd, rfl⟩⟩; refine ⟨_, rfl, ?_⟩))
  go_ret
  exact ⟨sqD, by repeat (first | exact zm.refl _ | apply zm.step)⟩

end Go.Proofs.Yteggmbhcnhbamaa.F
end
section
namespace Go.Proofs.Yteggmbhcnhbamaa.F
open Go.RowKit Go.Proofs.YteggmbhcnhbamaaW.PrintWords Go.Proofs.YteggmbhcnhbamaaW.PrintLast Go.Proofs.YteggmbhcnhbamaaW.PrintMore
attribute [local go_sem] qJ qM q2 q4 qy qx qL qK   -- for this text's walks alone
set_option linter.unusedVariables false
set_option linter.unusedSimpArgs false

def qD.l0 : Nat → Int → Int → List Int → Int → Int → Option (Int)
 | 0, _, _, _, _, _ => none
 | k + 1, x1, x5, x9, x10, x11 => if x11 < x10 then (if 0 ≤ x11 then (if x11 < (x9.length : Int) then ((js.f (Go.bits .and .i64 x1 (rd x9 x11))).bind fun t458 => (qD.l0 k x1 (mx x5 t458) x9 x10 (wrap64 (x11 + 1)))) else (none)) else (none)) else (some x5)
def qD.f (k : Nat) (a0_0 : Int) (l0_1 : List Int) (a1 : Int) : Option (Int) := qD.l0 k a1 0 l0_1 (l0_1.length : Int) 0
theorem qD.calls (k : Nat) (a0_0 : Int) (A0_1 : Option Addr) (c0_1 : Nat) (l0_1 : List Int) (a1 : Int) (r : Int) (w : World) (hr0_1 : Kd.C (Kd.int .i64) w A0_1 l0_1.length l0_1) (hc0_1 : l0_1.length ≤ c0_1) (h : qD.f k a0_0 l0_1 a1 = some r) :
  Calls Try.prog 101 #[.agg #[.int .i64 a0_0, .slice A0_1 l0_1.length c0_1], .int .i64 a1] w fun e w' => e = .returned (.int .i64 r) ∧ Below w.heap.size w w' := by
 have hu27 := Try.underlying27
 have HR0_1 := Aside0.mk hr0_1
 have HC0_1 := Aside0.mk hc0_1
 clear hr0_1 hc0_1
 have HB := Aside0.mk (Below.refl w.heap.size w)
 have H : (qD.l0 k a1 0 l0_1 (l0_1.length : Int) 0) = some r := h
 clear h
 have H' := Aside0.mk H
 clear H
 go_enter Try.func101, Try.ntmps101
 go_wp2_with (first | ((with_reducible refine zi (N := 2) rfl ?_); refine zl ?hg (N := 2) ?hd (cs := #[.int .i64 a0_0, .slice A0_1 l0_1.length c0_1]) (t := 27) ?hr ?_; (case hd => rfl); (case hg => rfl); (case hr => exact sqG); intro gb456 hg w3 hbox hb; have n0_ := Aside0.mk (zc sqB hb); have n1_ := Aside0.mk (hbox); have n2_ := Aside0.mk ((sqS hg : w.heap.size ≤ gb456)); have n3_ := Aside0.mk ((sqS hg : w.heap.size ≤ gb456)); clear HB; have HB := n0_; have BK456 := n1_; have GW456 := n2_; have GE456 := n3_; clear n0_ n1_ n2_ n3_; clear hb hbox hg; have hcz4_0 : w3.cell? ⟨gb456, 0, none⟩ = some (.int .i64 a0_0) := (zb BK456.out 0).trans rfl; have hcz4_1 : w3.cell? ⟨gb456, 1, none⟩ = some (.slice A0_1 l0_1.length c0_1) := (zb BK456.out 1).trans rfl; have hfz4_0 := za BK456.out 0; have hfz4_1 := za BK456.out 1))
 go_loopg [5, 11] k (fun kq v5 v11 w' => ∃ (x5_1 : Int) (x11_1 : Int), v5 = .int .i64 x5_1 ∧ v11 = .int .i64 x11_1 ∧ Aside0 (qD.l0 kq a1 x5_1 l0_1 (l0_1.length : Int) x11_1 = some r) ∧ Aside0 (kq ≤ k) ∧ Aside0 (w'.heap[gb456]? = some (.cells #[.int .i64 a0_0, (.slice A0_1 l0_1.length c0_1)] 27 (0, 0))) ∧ Aside0 (Below w.heap.size w w'))
 case atStart => exact ⟨(0), (0), (sqD), (sqD), H', ⟨Nat.le_refl _⟩, ⟨sqK BK456.out⟩, ⟨sqB⟩⟩
 case round =>
  clear H'
  try clear c1
  try clear p2
  try clear hcz4_0
  try clear hcz4_1
  try clear hfz4_0
  try clear hfz4_1
  obtain ⟨x5_1, x11_1, rfl, rfl, HA, HK1, BK456, HB⟩ := hrel
  cases gk with
  | zero => exact absurd HA.out (by simp [qD.l0])
  | succ k1 =>
   have H := HA.out
   clear HA
   simp only [qD.l0] at H
   by_cases c5 : x11_1 < (l0_1.length : Int)
   ·rw [if_pos c5] at H
    have c5b0 : decide (x11_1 < (l0_1.length : Int)) = true := decide_eq_true c5
    clear c5
    by_cases c6 : 0 ≤ x11_1
    ·rw [if_pos c6] at H
     have c6b0 : decide (0 ≤ x11_1) = true := decide_eq_true c6
     clear c6
     by_cases c7 : x11_1 < (l0_1.length : Int)
     ·rw [if_pos c7] at H
      have c7b0 : decide (x11_1 < (l0_1.length : Int)) = true := decide_eq_true c7
      clear c7
      replace H := Option.bind_eq_some_iff.mp H
      obtain ⟨t458, A80, H⟩ := H
      replace H : (qD.l0 k1 a1 (mx x5_1 t458) l0_1 (l0_1.length : Int) (wrap64 (x11_1 + 1))) = some r := H
      have A8 := Aside0.mk A80
      clear A80
      obtain ⟨ji9, hji9⟩ : ∃ j_ : Int, (mx x5_1 t458) = j_ := ⟨_, rfl⟩
      replace H : (qD.l0 k1 a1 ji9 l0_1 (l0_1.length : Int) (wrap64 (x11_1 + 1))) = some r := by first | (rw [hji9] at H; exact H) | (simp only [hji9] at H ⊢; exact H)
      (try rw [hji9] at A8)
      have hji9_ : (if x5_1 < t458 then t458 else x5_1) = ji9 := hji9
      have H' := Aside0.mk H
      clear H
      have p457 : 0 ≤ (x11_1 : Int) := of_decide_eq_true sqA
      have q457 : x11_1 < (l0_1.length : Int) := of_decide_eq_true sqA
      obtain ⟨ad457, e457, hx457_0⟩ := Kd.zT HR0_1.out x11_1 p457 q457
      cases e457
      replace hx457_0 := (HB.out.cell (World.block_lt_of_cell? w _ hx457_0)).trans hx457_0
      replace p457 := eq_true p457
      replace q457 := eq_true q457
      go_wp2_with (first | ((with_reducible refine zd (f := 62) rfl ?_); refine zn (some 19) rfl rfl Try.func62 (by kernel_rfl) rfl #[.int .i64 (Go.bits .and .i64 a1 (rd l0_1 x11_1))] rfl sqM ?_; (with_reducible refine (js.calls (Go.bits .and .i64 a1 (rd l0_1 x11_1)) t458 _ A8.out).mono ?_); rintro e w' ⟨rfl, ⟨nd, rfl⟩⟩; refine ⟨_, rfl, ?_⟩))
      go_roundg k1
      case measure => have := HK1.out; omega
      case rel => exact ⟨(ji9), (wrap64 (x11_1 + 1)), (by first | rfl | (simp; done) | (simp only [← hji9] <;> (first | rfl | simp)) | (simp [*]; done)), (sqD), H', ⟨by have := HK1.out; omega⟩, ⟨sqK BK456.out⟩, ⟨sqB⟩⟩
     ·rw [if_neg c7] at H
      exact absurd H (by simp)
    ·rw [if_neg c6] at H
     exact absurd H (by simp)
   ·rw [if_neg c5] at H
    have c5b0 : decide (x11_1 < (l0_1.length : Int)) = false := decide_eq_false c5
    clear c5
    obtain rfl := Option.some.inj H
    go_wp2
    go_ret
    exact ⟨sqE, sqB⟩

end Go.Proofs.Yteggmbhcnhbamaa.F
end
section
namespace Go.Proofs.Yteggmbhcnhbamaa.F
open Go.RowKit Go.Proofs.YteggmbhcnhbamaaW.PrintWords Go.Proofs.YteggmbhcnhbamaaW.PrintLast Go.Proofs.YteggmbhcnhbamaaW.PrintMore
attribute [local go_sem] qJ qM q2 q4 qy qx qL qK   -- for this text's walks alone
set_option linter.unusedVariables false
set_option linter.unusedSimpArgs false

def jm.f (k : Nat) (a0_0 : Int) (l0_1 : List Int) : Option (Int) := (zZ.f k a0_0 l0_1).bind fun t808 => (if t808 = true then (if 0 < (l0_1.length : Int) then ((js.f (rd l0_1 0)).bind fun t810 => (some t810)) else (none)) else (some (-1)))
theorem jm.calls (k : Nat) (a0_0 : Int) (A0_1 : Option Addr) (c0_1 : Nat) (l0_1 : List Int) (r : Int) (w : World) (hr0_1 : Kd.C (Kd.int .i64) w A0_1 l0_1.length l0_1) (hc0_1 : l0_1.length ≤ c0_1) (h : jm.f k a0_0 l0_1 = some r) :
  Calls Try.prog 107 #[.agg #[.int .i64 a0_0, .slice A0_1 l0_1.length c0_1]] w fun e w' => e = .returned (.int .i64 r) ∧ Below w.heap.size w w' := by
 have hu27 := Try.underlying27
 have HR0_1 := Aside0.mk hr0_1
 have HC0_1 := Aside0.mk hc0_1
 clear hr0_1 hc0_1
 have HB := Aside0.mk (Below.refl w.heap.size w)
 have H : ((zZ.f k a0_0 l0_1).bind fun t808 => (if t808 = true then (if 0 < (l0_1.length : Int) then ((js.f (rd l0_1 0)).bind fun t810 => (some t810)) else (none)) else (some (-1)))) = some r := h
 clear h
 replace H := Option.bind_eq_some_iff.mp H
 obtain ⟨t808, A20, H⟩ := H
 replace H : (if t808 = true then (if 0 < (l0_1.length : Int) then ((js.f (rd l0_1 0)).bind fun t810 => (some t810)) else (none)) else (some (-1))) = some r := H
 have A2 := Aside0.mk A20
 clear A20
 by_cases c3 : t808 = true
 ·subst c3
  have H1 : (if 0 < (l0_1.length : Int) then ((js.f (rd l0_1 0)).bind fun t810 => (some t810)) else (none)) = some r := by rw [if_pos rfl] at H; exact H
  clear H
  have H := H1
  clear H1
  by_cases c4 : 0 < (l0_1.length : Int)
  ·rw [if_pos c4] at H
   have c4b0 : decide (0 < (l0_1.length : Int)) = true := decide_eq_true c4
   have c4b1 : decide (0 < l0_1.length) = true := decide_eq_true (by omega)
   clear c4
   replace H := Option.bind_eq_some_iff.mp H
   obtain ⟨t810, A50, H⟩ := H
   replace H : (some t810) = some r := H
   have A5 := Aside0.mk A50
   clear A50
   obtain rfl := Option.some.inj H
   go_enter Try.func107, Try.ntmps107
   go_wp2_with (first | ((with_reducible refine zi (N := 1) rfl ?_); refine zl ?hg (N := 1) ?hd (cs := #[.int .i64 a0_0, .slice A0_1 l0_1.length c0_1]) (t := 27) ?hr ?_; (case hd => rfl); (case hg => rfl); (case hr => exact sqG); intro gb807 hg w6 hbox hb; have n0_ := Aside0.mk (zc sqB hb); have n1_ := Aside0.mk (hbox); have n2_ := Aside0.mk ((sqS hg : w.heap.size ≤ gb807)); have n3_ := Aside0.mk ((sqS hg : w.heap.size ≤ gb807)); clear HB; have HB := n0_; have BK807 := n1_; have GW807 := n2_; have GE807 := n3_; clear n0_ n1_ n2_ n3_; clear hb hbox hg; have hcz7_0 : w6.cell? ⟨gb807, 0, none⟩ = some (.int .i64 a0_0) := (zb BK807.out 0).trans rfl; have hcz7_1 : w6.cell? ⟨gb807, 1, none⟩ = some (.slice A0_1 l0_1.length c0_1) := (zb BK807.out 1).trans rfl; have hfz7_0 := za BK807.out 0; have hfz7_1 := za BK807.out 1) | ((with_reducible refine zd (f := 42) rfl ?_); refine zn (some 4) rfl rfl Try.func42 (by kernel_rfl) rfl #[.agg #[.int .i64 a0_0, .slice A0_1 l0_1.length c0_1]] rfl sqM ?_; (with_reducible refine (zZ.calls k a0_0 _ _ l0_1 true _ ?side1 ?side2 A2.out).mono ?_); (case side1 => exact sqC (Kd.zp HR0_1.out HB.out)); (case side2 => exact HC0_1.out); rintro e w8 ⟨rfl, hb⟩; refine ⟨_, rfl, ?_⟩; have n0_ := Aside0.mk (ze (g := gb807) (o := .cells #[.int .i64 a0_0, .slice A0_1 l0_1.length c0_1] 27 (0, 0)) (sqK BK807.out) hb); have n1_ := Aside0.mk (zc sqB hb); clear BK807; clear HB; have BK807 := n0_; have HB := n1_; clear n0_ n1_; (try clear hb); (try clear hb2); (try clear hk); (try clear hi); have hcz9_0 : w8.cell? ⟨gb807, 0, none⟩ = some (.int .i64 a0_0) := (zb BK807.out 0).trans rfl; have hcz9_1 : w8.cell? ⟨gb807, 1, none⟩ = some (.slice A0_1 l0_1.length c0_1) := (zb BK807.out 1).trans rfl; have hfz9_0 := za BK807.out 0; have hfz9_1 := za BK807.out 1; have p809 : 0 ≤ (0 : Int) := (by omega); have q809 : 0 < (l0_1.length : Int) := of_decide_eq_true sqA; obtain ⟨ad809, e809, hx809_0⟩ := Kd.zT HR0_1.out 0 p809 q809; cases e809; have qi809 : (0 < l0_1.length) = True := eq_true (by omega); (try rw [show ((0 : Int)).toNat = 0 from rfl] at hx809_0); (try rw [Addr.add_zero'] at hx809_0); replace hx809_0 := (HB.out.cell (World.block_lt_of_cell? w _ hx809_0)).trans hx809_0; replace p809 := eq_true p809; replace q809 := eq_true q809) | ((with_reducible refine zd (f := 62) rfl ?_); refine zn (some 10) rfl rfl Try.func62 (by kernel_rfl) rfl #[.int .i64 (rd l0_1 0)] rfl sqM ?_; (with_reducible refine (js.calls (rd l0_1 0) t810 _ A5.out).mono ?_); rintro e w' ⟨rfl, ⟨nd, rfl⟩⟩; refine ⟨_, rfl, ?_⟩))
   go_ret
   exact ⟨sqE, sqB⟩
  ·rw [if_neg c4] at H
   exact absurd H (by simp)
 ·replace c3 := Bool.eq_false_iff.mpr c3
  subst c3
  have H1 : (some (-1)) = some r := by rw [if_neg (show ¬ (false = true) by decide)] at H; exact H
  clear H
  have H := H1
  clear H1
  obtain rfl := Option.some.inj H
  go_enter Try.func107, Try.ntmps107
  go_wp2_with (first | ((with_reducible refine zi (N := 1) rfl ?_); refine zl ?hg (N := 1) ?hd (cs := #[.int .i64 a0_0, .slice A0_1 l0_1.length c0_1]) (t := 27) ?hr ?_; (case hd => rfl); (case hg => rfl); (case hr => exact sqG); intro gb807 hg w10 hbox hb; have n0_ := Aside0.mk (zc sqB hb); have n1_ := Aside0.mk (hbox); have n2_ := Aside0.mk ((sqS hg : w.heap.size ≤ gb807)); have n3_ := Aside0.mk ((sqS hg : w.heap.size ≤ gb807)); clear HB; have HB := n0_; have BK807 := n1_; have GW807 := n2_; have GE807 := n3_; clear n0_ n1_ n2_ n3_; clear hb hbox hg; have hcz11_0 : w10.cell? ⟨gb807, 0, none⟩ = some (.int .i64 a0_0) := (zb BK807.out 0).trans rfl; have hcz11_1 : w10.cell? ⟨gb807, 1, none⟩ = some (.slice A0_1 l0_1.length c0_1) := (zb BK807.out 1).trans rfl; have hfz11_0 := za BK807.out 0; have hfz11_1 := za BK807.out 1) | ((with_reducible refine zd (f := 42) rfl ?_); refine zn (some 4) rfl rfl Try.func42 (by kernel_rfl) rfl #[.agg #[.int .i64 a0_0, .slice A0_1 l0_1.length c0_1]] rfl sqM ?_; (with_reducible refine (zZ.calls k a0_0 _ _ l0_1 false _ ?side1 ?side2 A2.out).mono ?_); (case side1 => exact sqC (Kd.zp HR0_1.out HB.out)); (case side2 => exact HC0_1.out); rintro e w12 ⟨rfl, hb⟩; refine ⟨_, rfl, ?_⟩; have n0_ := Aside0.mk (ze (g := gb807) (o := .cells #[.int .i64 a0_0, .slice A0_1 l0_1.length c0_1] 27 (0, 0)) (sqK BK807.out) hb); have n1_ := Aside0.mk (zc sqB hb); clear BK807; clear HB; have BK807 := n0_; have HB := n1_; clear n0_ n1_; (try clear hb); (try clear hb2); (try clear hk); (try clear hi)))
  go_ret
  exact ⟨sqE, sqB⟩

end Go.Proofs.Yteggmbhcnhbamaa.F
end
section
namespace Go.Proofs.Yteggmbhcnhbamaa.F
open Go.RowKit Go.Proofs.YteggmbhcnhbamaaW.PrintWords Go.Proofs.YteggmbhcnhbamaaW.PrintLast Go.Proofs.YteggmbhcnhbamaaW.PrintMore
attribute [local go_sem] qJ qM q2 q4 qy qx qL qK   -- for this text's walks alone
set_option linter.unusedVariables false
set_option linter.unusedSimpArgs false

def qa.l0 : Nat → Int → Int → Int → Int → Int → List Int → Option (Int)
 | 0, _, _, _, _, _, _ => none
 | k + 1, x1, x5, x6, x7, x788000, x788001 => if x7 < x788000 then (if 0 ≤ x7 then ((qD.f k x788000 x788001 (Go.bits .or .i64 x1 (shl .i64 1 x7))).bind fun t789 => (if t789 = x5 then (qa.l0 k x1 x5 (Go.bits .or .i64 x6 (shl .i64 1 x7)) (wrap64 (x7 + 1)) x788000 x788001) else (qa.l0 k x1 x5 x6 (wrap64 (x7 + 1)) x788000 x788001))) else (none)) else (some x6)
def qa.f (k : Nat) (a0_0 : Int) (l0_1 : List Int) (a1 : Int) : Option (Int) := (qD.f k a0_0 l0_1 a1).bind fun t788 => (qa.l0 k a1 t788 0 0 a0_0 l0_1)
def qa.T6 : Bool × List (List Nat × List Nat) := (true, [([], []), ([], []), ([], []), ([2], [2]), ([1, 3], [1, 3]), ([0, 4], [0, 4]), ([], []), ([5, 6], [5, 6])])
def qa.B6 : List Nat := [0, 0, 0, 4, 14, 31, 0, 127]
theorem qa.JD : vI .any (opsOf Try.f141 6) = qa.T6 := by kernel_rfl
theorem qa.ZF : j8 qa.T6.2 qa.B6 = true := by kernel_rfl
theorem qa.calls (k : Nat) (a0_0 : Int) (A0_1 : Option Addr) (c0_1 : Nat) (l0_1 : List Int) (a1 : Int) (r : Int) (w : World) (hr0_1 : Kd.C (Kd.int .i64) w A0_1 l0_1.length l0_1) (hc0_1 : l0_1.length ≤ c0_1) (h : qa.f k a0_0 l0_1 a1 = some r) :
  Calls Try.prog 141 #[.agg #[.int .i64 a0_0, .slice A0_1 l0_1.length c0_1], .int .i64 a1] w fun e w' => e = .returned (.int .i64 r) ∧ Below w.heap.size w w' := by
 have hu27 := Try.underlying27
 have HR0_1 := Aside0.mk hr0_1
 have HC0_1 := Aside0.mk hc0_1
 clear hr0_1 hc0_1
 have HB := Aside0.mk (Below.refl w.heap.size w)
 have H : ((qD.f k a0_0 l0_1 a1).bind fun t788 => (qa.l0 k a1 t788 0 0 a0_0 l0_1)) = some r := h
 clear h
 replace H := Option.bind_eq_some_iff.mp H
 obtain ⟨t788, A30, H⟩ := H
 replace H : (qa.l0 k a1 t788 0 0 a0_0 l0_1) = some r := H
 have A3 := Aside0.mk A30
 clear A30
 have H' := Aside0.mk H
 clear H
 go_enter Try.func141, Try.ntmps141
 go_wp2_with (first | ((with_reducible refine zi (N := 2) rfl ?_); refine zl ?hg (N := 2) ?hd (cs := #[.int .i64 a0_0, .slice A0_1 l0_1.length c0_1]) (t := 27) ?hr ?_; (case hd => rfl); (case hg => rfl); (case hr => exact sqG); intro gb787 hg w4 hbox hb; have n0_ := Aside0.mk (zc sqB hb); have n1_ := Aside0.mk (hbox); have n2_ := Aside0.mk ((sqS hg : w.heap.size ≤ gb787)); have n3_ := Aside0.mk ((sqS hg : w.heap.size ≤ gb787)); clear HB; have HB := n0_; have BK787 := n1_; have GW787 := n2_; have GE787 := n3_; clear n0_ n1_ n2_ n3_; clear hb hbox hg; have hcz5_0 : w4.cell? ⟨gb787, 0, none⟩ = some (.int .i64 a0_0) := (zb BK787.out 0).trans rfl; have hcz5_1 : w4.cell? ⟨gb787, 1, none⟩ = some (.slice A0_1 l0_1.length c0_1) := (zb BK787.out 1).trans rfl; have hfz5_0 := za BK787.out 0; have hfz5_1 := za BK787.out 1) | ((with_reducible refine zd (f := 101) rfl ?_); refine zn (some 10) rfl rfl Try.func101 (by kernel_rfl) rfl #[.agg #[.int .i64 a0_0, .slice A0_1 l0_1.length c0_1], .int .i64 a1] rfl sqM ?_; (with_reducible refine (qD.calls k a0_0 _ _ l0_1 a1 t788 _ ?side1 ?side2 A3.out).mono ?_); (case side1 => exact sqC (Kd.zp HR0_1.out HB.out)); (case side2 => exact HC0_1.out); rintro e w6 ⟨rfl, hb⟩; refine ⟨_, rfl, ?_⟩; have n0_ := Aside0.mk (ze (g := gb787) (o := .cells #[.int .i64 a0_0, .slice A0_1 l0_1.length c0_1] 27 (0, 0)) (sqK BK787.out) hb); have n1_ := Aside0.mk (zc sqB hb); clear BK787; clear HB; have BK787 := n0_; have HB := n1_; clear n0_ n1_; (try clear hb); (try clear hb2); (try clear hk); (try clear hi)))
 go_loopg [6, 7] k (fun kq v6 v7 w' => ∃ (x6_1 : Int) (x7_1 : Int), v6 = .int .i64 x6_1 ∧ v7 = .int .i64 x7_1 ∧ Aside0 (qa.l0 kq a1 t788 x6_1 x7_1 a0_0 l0_1 = some r) ∧ Aside0 (kq ≤ k) ∧ Aside0 (w'.heap[gb787]? = some (.cells #[.int .i64 a0_0, (.slice A0_1 l0_1.length c0_1)] 27 (0, 0))) ∧ Aside0 (Below w.heap.size w w'))
 case atStart => exact ⟨(0), (0), (sqD), (sqD), H', ⟨Nat.le_refl _⟩, ⟨sqK BK787.out⟩, ⟨sqB⟩⟩
 case round =>
  clear H'
  try clear c1
  try clear p2
  try clear hcz5_0
  try clear hcz5_1
  try clear hfz5_0
  try clear hfz5_1
  obtain ⟨x6_1, x7_1, rfl, rfl, HA, HK1, BK787, HB⟩ := hrel
  cases gk with
  | zero => exact absurd HA.out (by simp [qa.l0])
  | succ k1 =>
   have H := HA.out
   clear HA
   simp only [qa.l0] at H
   by_cases c7 : x7_1 < a0_0
   ·rw [if_pos c7] at H
    have c7b0 : decide (x7_1 < a0_0) = true := decide_eq_true c7
    clear c7
    by_cases c8 : 0 ≤ x7_1
    ·rw [if_pos c8] at H
     have c8b0 := eq_true c8
     have c8b1 : decide (0 ≤ x7_1) = true := decide_eq_true c8
     clear c8
     obtain ⟨ji9, hji9⟩ : ∃ j_ : Int, (shl .i64 1 x7_1) = j_ := ⟨_, rfl⟩
     replace H : ((qD.f k1 a0_0 l0_1 (Go.bits .or .i64 a1 (ji9))).bind fun t789 => (if t789 = t788 then (qa.l0 k1 a1 t788 (Go.bits .or .i64 x6_1 (ji9)) (wrap64 (x7_1 + 1)) a0_0 l0_1) else (qa.l0 k1 a1 t788 x6_1 (wrap64 (x7_1 + 1)) a0_0 l0_1))) = some r := by first | (rw [hji9] at H; exact H) | (simp only [hji9] at H ⊢; exact H)
     have hji9_ : (IntKind.i64.wrap (1 * 2 ^ min x7_1.toNat 64)) = ji9 := hji9
     have hji9z : x7_1 ≤ 64 → (IntKind.i64.wrap (1 * 2 ^ x7_1.toNat)) = ji9 := vH hji9
     have hji9u : (IntKind.i64.wrap (2 ^ min x7_1.toNat 64)) = ji9 := by have h_ := hji9_; rw [Int.one_mul] at h_; exact h_
     have hji9v : x7_1 ≤ 64 → (IntKind.i64.wrap (2 ^ x7_1.toNat)) = ji9 := fun hle_ => by have h_ := hji9z hle_; rw [Int.one_mul] at h_; exact h_
     have hji9y : (wrap64 (1 * 2 ^ min x7_1.toNat 64)) = ji9 := (zj _).symm.trans hji9_
     have hji9x : x7_1 ≤ 64 → (wrap64 (1 * 2 ^ x7_1.toNat)) = ji9 := fun h_ => (zj _).symm.trans (hji9z h_)
     replace H := Option.bind_eq_some_iff.mp H
     obtain ⟨t789, A100, H⟩ := H
     replace H : (if t789 = t788 then (qa.l0 k1 a1 t788 (Go.bits .or .i64 x6_1 (ji9)) (wrap64 (x7_1 + 1)) a0_0 l0_1) else (qa.l0 k1 a1 t788 x6_1 (wrap64 (x7_1 + 1)) a0_0 l0_1)) = some r := H
     have A10 := Aside0.mk A100
     clear A100
     by_cases c11 : t789 = t788
     ·rw [if_pos c11] at H
      have c11b0 : (t789 == t788) = true := beq_iff_eq.mpr c11
      have c11b1 : (t789 != t788) = false := bne_eq_false_iff_eq.mpr c11
      clear c11
      have c12b0 := eq_true (of_decide_eq_true sqA : 0 ≤ x7_1)
      have H' := Aside0.mk H
      clear H
      have hcz14_0 : wr.cell? ⟨gb787, 0, none⟩ = some (.int .i64 a0_0) := (zb BK787.out 0).trans rfl
      have hcz14_1 : wr.cell? ⟨gb787, 1, none⟩ = some (.slice A0_1 l0_1.length c0_1) := (zb BK787.out 1).trans rfl
      have hfz14_0 := za BK787.out 0
      have hfz14_1 := za BK787.out 1
      try go_wp2
      have n0_ := Aside0.mk (jl BK787.out)
      have n1_ := Aside0.mk (qi HB.out)
      clear BK787
      clear HB
      have BK787 := n0_
      have HB := n1_
      clear n0_ n1_
      refine jS (n := 8) (S := fun w' => w'.cell? ⟨gb787, 0, none⟩ = some (.int .i64 a0_0) ∧ w'.cell? ⟨gb787, 1, none⟩ = some (.slice A0_1 l0_1.length c0_1)) (ds := []) #[false, false, false, false, false, false, false, false] (by kernel_rfl) rfl rfl ⟨(zb BK787.out 0).trans rfl, (zb BK787.out 1).trans rfl⟩ (fun hHeld => ?_); refine jg qa.JD qa.ZF (fun HT_ HW_ => ?_)
      generalize wr.drew = w15 at BK787 HB hHeld ⊢
      refine zJ (i := 1) (N := some 18) (v := ?_) (a' := ?_) #[false, true, false, false, false, false, false, false] rfl rfl (zx HT_.out (by kernel_rfl)) (fun _ _ _ h => h) (Or.inl ⟨by rfl, ?_⟩) ?_ ?_
      rotate_left
      ·intro w'
       go_simp
       with_reducible rfl
      rotate_left
      ·simp only [Act.put, List.setIfInBounds_toArray, List.set_cons_zero, List.set_cons_succ, zj, zo]
       rfl
      refine zJ (i := 2) (N := some 19) (v := ?_) (a' := ?_) #[false, true, true, false, false, false, false, false] rfl rfl (zx HT_.out (by kernel_rfl)) (fun _ _ _ h => h) (Or.inl ⟨by rfl, ?_⟩) ?_ ?_
      rotate_left
      ·intro w'
       go_simp
       with_reducible rfl
      rotate_left
      ·simp only [Act.put, List.setIfInBounds_toArray, List.set_cons_zero, List.set_cons_succ, zj, zo]
       rfl
      refine zJ (i := 3) (N := some 20) (v := ?_) (a' := ?_) #[false, true, true, true, false, false, false, false] rfl rfl (zx HT_.out (by kernel_rfl)) (fun _ _ _ h => h) (Or.inl ⟨by rfl, ?_⟩) ?_ ?_
      rotate_left
      ·intro w'
       go_simp
       with_reducible rfl
      rotate_left
      ·simp only [Act.put, List.setIfInBounds_toArray, List.set_cons_zero, List.set_cons_succ, zj, zo]
       rfl
      refine zJ (i := 4) (N := some 21) (v := ?_) (a' := ?_) #[false, true, true, true, true, false, false, false] rfl rfl (zx HT_.out (by kernel_rfl)) (fun _ _ _ h => h) (Or.inl ⟨by rfl, ?_⟩) ?_ ?_
      rotate_left
      ·intro w'
       go_simp
       with_reducible rfl
      rotate_left
      ·simp only [Act.put, List.setIfInBounds_toArray, List.set_cons_zero, List.set_cons_succ, zj, zo]
       rfl
      refine zJ (i := 6) (N := some 23) (v := ?_) (a' := ?_) #[false, true, true, true, true, false, true, false] rfl rfl (zx HT_.out (by kernel_rfl)) (fun _ _ _ h => h) (Or.inl ⟨by rfl, ?_⟩) ?_ ?_
      rotate_left
      ·intro w'
       go_simp
       with_reducible rfl
      rotate_left
      ·simp only [Act.put, List.setIfInBounds_toArray, List.set_cons_zero, List.set_cons_succ, zj, zo]
       rfl
      refine jy (i := 0) (N := some 17) (v := ?_) (a' := ?_) #[true, true, true, true, true, false, true, false] rfl rfl (qW HT_.out HW_.out (by kernel_rfl)) (fun _ _ _ h => h) (Or.inl ⟨by rfl, ?_⟩) hHeld ?_ ?_
      rotate_left
      ·rintro w' ⟨s0, s1⟩
       go_simp
       with_reducible rfl
      rotate_left
      ·simp only [Act.put, List.setIfInBounds_toArray, List.set_cons_zero, List.set_cons_succ, zj, zo]
       rfl
      refine yc (i := 5) (N := some 22) #[true, true, true, true, true, true, true, false] rfl rfl (jN HT_.out (by kernel_rfl)) (by decide) (fun K hK => ?_)
      refine yf Try.func101 (by kernel_rfl) rfl #[.agg #[.int .i64 a0_0, .slice A0_1 l0_1.length c0_1], .int .i64 (Go.bits .or .i64 a1 (ji9))] (by rfl) rfl rfl (by (try simp only [List.map_toArray, List.map_cons, List.map_nil]); first | done | (simp only [hji9]; rfl) | rfl | (simp only [List.length_drop, List.length_take]; rfl)) ?_
      with_reducible refine (qD.calls k1 a0_0 _ _ l0_1 (Go.bits .or .i64 a1 (ji9)) t789 _ ?side1 ?side2 A10.out).mono ?_
      (case side1 => exact sqC (Kd.zp HR0_1.out HB.out))
      (case side2 => exact HC0_1.out)
      rintro e w16 ⟨rfl, hb⟩
      refine ⟨_, rfl, ?_⟩
      have n0_ := Aside0.mk (ze (g := gb787) (o := .cells #[.int .i64 a0_0, .slice A0_1 l0_1.length c0_1] 27 (0, 0)) (sqK BK787.out) hb)
      have n1_ := Aside0.mk (zc sqB hb)
      clear BK787
      clear HB
      have BK787 := n0_
      have HB := n1_
      clear n0_ n1_
      (try clear hb)
      (try clear hb2)
      (try clear hk)
      (try clear hi)
      refine hK.out _ _ ⟨(zb BK787.out 0).trans rfl, (zb BK787.out 1).trans rfl⟩ (fun hHeld => ?_)
      clear hK K
      refine vm (a' := ?_) ?_ ?_
      rotate_left
      ·show Act.put _ (some 22) _ = _
       simp only [Act.put, List.setIfInBounds_toArray, List.set_cons_zero, List.set_cons_succ, zj, zo]
       rfl
      refine zJ (i := 7) (N := some 24) (v := ?_) (a' := ?_) #[true, true, true, true, true, true, true, true] rfl rfl (zx HT_.out (by kernel_rfl)) (fun _ _ _ h => h) (Or.inl ⟨by rfl, ?_⟩) ?_ ?_
      rotate_left
      ·intro w'
       go_simp
       with_reducible rfl
      rotate_left
      ·simp only [Act.put, List.setIfInBounds_toArray, List.set_cons_zero, List.set_cons_succ, zj, zo]
       rfl
      refine vu (jC HT_.out (by kernel_rfl)) ?_
      try go_wp2
      go_roundg k1
      case measure => have := HK1.out; omega
      case rel => exact ⟨(Go.bits .or .i64 x6_1 (ji9)), (wrap64 (x7_1 + 1)), (by first | rfl | (simp; done) | (simp only [← hji9] <;> (first | rfl | simp)) | (simp [*]; done)), (sqD), H', ⟨by have := HK1.out; omega⟩, ⟨sqK BK787.out⟩, ⟨sqB⟩⟩
     ·rw [if_neg c11] at H
      have c11b0 : (t789 == t788) = false := beq_eq_false_iff_ne.mpr c11
      have c11b1 : (t789 != t788) = true := bne_iff_ne.mpr c11
      have H' := Aside0.mk H
      clear H
      have hcz17_0 : wr.cell? ⟨gb787, 0, none⟩ = some (.int .i64 a0_0) := (zb BK787.out 0).trans rfl
      have hcz17_1 : wr.cell? ⟨gb787, 1, none⟩ = some (.slice A0_1 l0_1.length c0_1) := (zb BK787.out 1).trans rfl
      have hfz17_0 := za BK787.out 0
      have hfz17_1 := za BK787.out 1
      try go_wp2
      have n0_ := Aside0.mk (jl BK787.out)
      have n1_ := Aside0.mk (qi HB.out)
      clear BK787
      clear HB
      have BK787 := n0_
      have HB := n1_
      clear n0_ n1_
      refine jS (n := 8) (S := fun w' => w'.cell? ⟨gb787, 0, none⟩ = some (.int .i64 a0_0) ∧ w'.cell? ⟨gb787, 1, none⟩ = some (.slice A0_1 l0_1.length c0_1)) (ds := []) #[false, false, false, false, false, false, false, false] (by kernel_rfl) rfl rfl ⟨(zb BK787.out 0).trans rfl, (zb BK787.out 1).trans rfl⟩ (fun hHeld => ?_); refine jg qa.JD qa.ZF (fun HT_ HW_ => ?_)
      generalize wr.drew = w18 at BK787 HB hHeld ⊢
      refine zJ (i := 1) (N := some 18) (v := ?_) (a' := ?_) #[false, true, false, false, false, false, false, false] rfl rfl (zx HT_.out (by kernel_rfl)) (fun _ _ _ h => h) (Or.inl ⟨by rfl, ?_⟩) ?_ ?_
      rotate_left
      ·intro w'
       go_simp
       with_reducible rfl
      rotate_left
      ·simp only [Act.put, List.setIfInBounds_toArray, List.set_cons_zero, List.set_cons_succ, zj, zo]
       rfl
      refine zJ (i := 2) (N := some 19) (v := ?_) (a' := ?_) #[false, true, true, false, false, false, false, false] rfl rfl (zx HT_.out (by kernel_rfl)) (fun _ _ _ h => h) (Or.inl ⟨by rfl, ?_⟩) ?_ ?_
      rotate_left
      ·intro w'
       go_simp
       with_reducible rfl
      rotate_left
      ·simp only [Act.put, List.setIfInBounds_toArray, List.set_cons_zero, List.set_cons_succ, zj, zo]
       rfl
      refine zJ (i := 3) (N := some 20) (v := ?_) (a' := ?_) #[false, true, true, true, false, false, false, false] rfl rfl (zx HT_.out (by kernel_rfl)) (fun _ _ _ h => h) (Or.inl ⟨by rfl, ?_⟩) ?_ ?_
      rotate_left
      ·intro w'
       go_simp
       with_reducible rfl
      rotate_left
      ·simp only [Act.put, List.setIfInBounds_toArray, List.set_cons_zero, List.set_cons_succ, zj, zo]
       rfl
      refine zJ (i := 4) (N := some 21) (v := ?_) (a' := ?_) #[false, true, true, true, true, false, false, false] rfl rfl (zx HT_.out (by kernel_rfl)) (fun _ _ _ h => h) (Or.inl ⟨by rfl, ?_⟩) ?_ ?_
      rotate_left
      ·intro w'
       go_simp
       with_reducible rfl
      rotate_left
      ·simp only [Act.put, List.setIfInBounds_toArray, List.set_cons_zero, List.set_cons_succ, zj, zo]
       rfl
      refine zJ (i := 6) (N := some 23) (v := ?_) (a' := ?_) #[false, true, true, true, true, false, true, false] rfl rfl (zx HT_.out (by kernel_rfl)) (fun _ _ _ h => h) (Or.inl ⟨by rfl, ?_⟩) ?_ ?_
      rotate_left
      ·intro w'
       go_simp
       with_reducible rfl
      rotate_left
      ·simp only [Act.put, List.setIfInBounds_toArray, List.set_cons_zero, List.set_cons_succ, zj, zo]
       rfl
      refine jy (i := 0) (N := some 17) (v := ?_) (a' := ?_) #[true, true, true, true, true, false, true, false] rfl rfl (qW HT_.out HW_.out (by kernel_rfl)) (fun _ _ _ h => h) (Or.inl ⟨by rfl, ?_⟩) hHeld ?_ ?_
      rotate_left
      ·rintro w' ⟨s0, s1⟩
       go_simp
       with_reducible rfl
      rotate_left
      ·simp only [Act.put, List.setIfInBounds_toArray, List.set_cons_zero, List.set_cons_succ, zj, zo]
       rfl
      refine yc (i := 5) (N := some 22) #[true, true, true, true, true, true, true, false] rfl rfl (jN HT_.out (by kernel_rfl)) (by decide) (fun K hK => ?_)
      refine yf Try.func101 (by kernel_rfl) rfl #[.agg #[.int .i64 a0_0, .slice A0_1 l0_1.length c0_1], .int .i64 (Go.bits .or .i64 a1 (ji9))] (by rfl) rfl rfl (by (try simp only [List.map_toArray, List.map_cons, List.map_nil]); first | done | (simp only [hji9]; rfl) | rfl | (simp only [List.length_drop, List.length_take]; rfl)) ?_
      with_reducible refine (qD.calls k1 a0_0 _ _ l0_1 (Go.bits .or .i64 a1 (ji9)) t789 _ ?side1 ?side2 A10.out).mono ?_
      (case side1 => exact sqC (Kd.zp HR0_1.out HB.out))
      (case side2 => exact HC0_1.out)
      rintro e w19 ⟨rfl, hb⟩
      refine ⟨_, rfl, ?_⟩
      have n0_ := Aside0.mk (ze (g := gb787) (o := .cells #[.int .i64 a0_0, .slice A0_1 l0_1.length c0_1] 27 (0, 0)) (sqK BK787.out) hb)
      have n1_ := Aside0.mk (zc sqB hb)
      clear BK787
      clear HB
      have BK787 := n0_
      have HB := n1_
      clear n0_ n1_
      (try clear hb)
      (try clear hb2)
      (try clear hk)
      (try clear hi)
      refine hK.out _ _ ⟨(zb BK787.out 0).trans rfl, (zb BK787.out 1).trans rfl⟩ (fun hHeld => ?_)
      clear hK K
      refine vm (a' := ?_) ?_ ?_
      rotate_left
      ·show Act.put _ (some 22) _ = _
       simp only [Act.put, List.setIfInBounds_toArray, List.set_cons_zero, List.set_cons_succ, zj, zo]
       rfl
      refine zJ (i := 7) (N := some 24) (v := ?_) (a' := ?_) #[true, true, true, true, true, true, true, true] rfl rfl (zx HT_.out (by kernel_rfl)) (fun _ _ _ h => h) (Or.inl ⟨by rfl, ?_⟩) ?_ ?_
      rotate_left
      ·intro w'
       go_simp
       with_reducible rfl
      rotate_left
      ·simp only [Act.put, List.setIfInBounds_toArray, List.set_cons_zero, List.set_cons_succ, zj, zo]
       rfl
      refine vu (jC HT_.out (by kernel_rfl)) ?_
      try go_wp2
      go_roundg k1
      case measure => have := HK1.out; omega
      case rel => exact ⟨(x6_1), (wrap64 (x7_1 + 1)), (sqD), (sqD), H', ⟨by have := HK1.out; omega⟩, ⟨sqK BK787.out⟩, ⟨sqB⟩⟩
    ·rw [if_neg c8] at H
     exact absurd H (by simp)
   ·rw [if_neg c7] at H
    have c7b0 : decide (x7_1 < a0_0) = false := decide_eq_false c7
    clear c7
    obtain rfl := Option.some.inj H
    have hcz20_0 : wr.cell? ⟨gb787, 0, none⟩ = some (.int .i64 a0_0) := (zb BK787.out 0).trans rfl
    have hcz20_1 : wr.cell? ⟨gb787, 1, none⟩ = some (.slice A0_1 l0_1.length c0_1) := (zb BK787.out 1).trans rfl
    have hfz20_0 := za BK787.out 0
    have hfz20_1 := za BK787.out 1
    go_wp2
    go_ret
    exact ⟨sqE, sqB⟩

end Go.Proofs.Yteggmbhcnhbamaa.F
end
section
namespace Go.Proofs.Yteggmbhcnhbamaa.F
open Go.RowKit Go.Proofs.YteggmbhcnhbamaaW.PrintWords Go.Proofs.YteggmbhcnhbamaaW.PrintLast Go.Proofs.YteggmbhcnhbamaaW.PrintMore
set_option linter.unusedSimpArgs false
set_option linter.unusedVariables false
def vE (q : Int → Option Bool) : Nat → Int → List Int → Int → Option (List Int)
  | 0, _, _, _ => none
  | k + 1, n, out, s => (jz.f n).bind fun t => if s ≤ t then ((q s).bind fun b => if b = true then (if out.length < 17592186044416 then vE q k n (out ++ [s]) (wrap64 (s + 1)) else none) else vE q k n out (wrap64 (s + 1))) else some out
theorem vr (q : Int → Option Bool) (g : Nat) (lb : Array Value) (eg : ∀ args w, (callFunc g args).run Try.prog w = .ok (.enter g args) w) (k : Nat) (n : Int) (r : List Int) (w : World) (hp : y8 g lb q w) (h : vE q k n [] 0 = some r) :
    Calls Try.prog 67 #[.int .i64 n, .func (.func g) #[] lb] w fun e w' => ∃ v0_ : Value, e = .returned (v0_) ∧ Kd.R (Kd.int .i64) 3 w' w.heap.size (fun _ => True) v0_ r ∧ Below w.heap.size w w' := by
  have HB := Aside0.mk (Below.refl w.heap.size w)
  have HP := Aside0.mk hp
  clear hp
  obtain ⟨yL, hyL⟩ : ∃ y_ : List Int, y_ = (([] : List Int)) := ⟨_, rfl⟩
  have H' := Aside0.mk (show vE q k n yL 0 = some r by rw [hyL]; exact h)
  clear h
  have NyL := Aside0.mk hyL
  clear hyL
  go_enter Try.func67, Try.ntmps67
  go_wp2_with (first | ((with_reducible refine zi (N := 7) rfl ?_); refine Kd.jx (Kd.int .i64) _ 3 ?hg (N := 7) ?hd (xs := ([] : List Int)) (inner := []) (ok := fun _ => True) (okp := fun _ => True) ?hr ?hp (fun _ hk => hk) trivial (Below.refl _ _) (Nat.le_refl _) (by simp) ?_; (case hd => rfl); (case hg => rfl); (case hr => exact sqG); (case hp => exact (qT.none _ _)); intro vL wL hoL hb hg_ hnew_; clear hg_ hnew_; (first | rw [← NyL.out] at hoL | (simp only [Int.reduceToNat] at hoL; rw [← NyL.out] at hoL)); have n0_ := Aside0.mk (Kd.zD hoL (zg sqB)); have n1_ := Aside0.mk (zc sqB hb); clear HB; have HOL := n0_; have HB := n1_; clear n0_ n1_; clear hb hoL))
  go_loopg [5, 6] k (fun kq v5 v6 w' => ∃ (out : List Int) (s : Int), v6 = .int .i64 s ∧ Aside0 (vE q kq n out s = some r) ∧ Aside0 (kq ≤ k) ∧ Aside0 (Kd.R (Kd.int .i64) 3 w' w.heap.size (fun _ => True) v5 out) ∧ Aside0 (Below w.heap.size w w'))
  case atStart => exact ⟨yL, 0, rfl, H', ⟨Nat.le_refl _⟩, ⟨sqR HOL.out⟩, ⟨sqB⟩⟩
  case round =>
    clear H'
    obtain ⟨out, s, rfl, HA, HK1, HO, HB⟩ := hrel
    cases gk with
    | zero => exact absurd HA.out (by simp [vE])
    | succ k1 =>
      have H := HA.out
      clear HA
      simp only [vE] at H
      obtain ⟨t, ht, H⟩ := Option.bind_eq_some_iff.mp H
      have AT := Aside0.mk ht
      clear ht
      by_cases c1 : s ≤ t
      · rw [if_pos c1] at H
        obtain ⟨b, hb, H⟩ := Option.bind_eq_some_iff.mp H
        have AB := Aside0.mk hb
        clear hb
        have c1b0 : decide (s ≤ t) = true := decide_eq_true c1
        clear c1
        cases b with
        | true =>
          have H1 : (if out.length < 17592186044416 then vE q k1 n (out ++ [s]) (wrap64 (s + 1)) else none) = some r := by simpa using H
          clear H
          by_cases c2 : out.length < 17592186044416
          · rw [if_pos c2] at H1
            have HLen := Aside0.mk c2
            clear c2
            obtain ⟨yA, hyA⟩ : ∃ y_ : List Int, y_ = (out ++ [s]) := ⟨_, rfl⟩
            rw [← hyA] at H1
            have NyA := Aside0.mk hyA
            have H' := Aside0.mk H1
            clear H1 hyA
            go_wp2_with ((with_reducible refine zd (f := 81) rfl ?_); refine zn (some 10) rfl rfl Try.func81 (by kernel_rfl) rfl #[.int .i64 n] rfl (by (try simp only [List.map_toArray, List.map_cons, List.map_nil]); first | done | rfl) ?_; (with_reducible refine (jz.calls n t _ AT.out).mono ?_); rintro e w' ⟨rfl, ⟨nd, rfl⟩⟩; refine ⟨_, rfl, ?_⟩)
            refine (HP.out _ _ _ AB.out sqB).mono ?_
            rintro e w9 ⟨rfl, hb⟩
            have n0_ := Aside0.mk (zc (w := w) sqB hb)
            have n1_ := Aside0.mk (Kd.zz (sqR HO.out) hb)
            clear HB HO hb
            have HB := n0_
            have HO := n1_
            clear n0_ n1_
            go_wp2_with ((with_reducible refine qN (b := .append) (xs := #[.tmp 17, .tmp 19]) rfl ?_); at_builtin; refine Kd.jA (Kd.int .i64) (w0 := w) w.heap.size rfl (.tmp 17) (.tmp 19) 22 3 (.int .i64 0) 8 rfl Try.underlying22 jO rfl (by decide) (by omega) u5 out s [.int .i64 s] (fun _ => True) (fun _ => False) rfl rfl ?aP (fun _ hk => hk.elim) ?aF ?aO ?aB ?aS ?aL ?_; (case aP => exact rfl); (case aB => exact sqB); (case aF => exact (fun _ _ => trivial)); (case aO => exact (sqR HO.out)); (case aS => exact (zg sqB)); (case aL => have := HLen.out; omega); intro v161 w8 ho hb hg hat; rw [← NyA.out] at ho; have n0_ := Aside0.mk (hb); have n1_ := Aside0.mk (ho); clear HB; clear HO; have HB := n0_; have HOA := n1_; clear n0_ n1_; clear ho hb hg hat)
            go_roundg k1
            case measure => have := HK1.out; omega
            case rel => exact ⟨yA, wrap64 (s + 1), rfl, H', ⟨by have := HK1.out; omega⟩, ⟨sqR HOA.out⟩, ⟨sqB⟩⟩
          · rw [if_neg c2] at H1
            exact absurd H1 (by simp)
        | false =>
          have H' := Aside0.mk (show vE q k1 n out (wrap64 (s + 1)) = some r by simpa using H)
          clear H
          go_wp2_with ((with_reducible refine zd (f := 81) rfl ?_); refine zn (some 10) rfl rfl Try.func81 (by kernel_rfl) rfl #[.int .i64 n] rfl (by (try simp only [List.map_toArray, List.map_cons, List.map_nil]); first | done | rfl) ?_; (with_reducible refine (jz.calls n t _ AT.out).mono ?_); rintro e w' ⟨rfl, ⟨nd, rfl⟩⟩; refine ⟨_, rfl, ?_⟩)
          refine (HP.out _ _ _ AB.out sqB).mono ?_
          rintro e w9 ⟨rfl, hb⟩
          have n0_ := Aside0.mk (zc (w := w) sqB hb)
          have n1_ := Aside0.mk (Kd.zz (sqR HO.out) hb)
          clear HB HO hb
          have HB := n0_
          have HO := n1_
          clear n0_ n1_
          go_wp2
          go_roundg k1
          case measure => have := HK1.out; omega
          case rel => exact ⟨out, wrap64 (s + 1), rfl, H', ⟨by have := HK1.out; omega⟩, HO, HB⟩
      · rw [if_neg c1] at H
        have c1b0 : decide (s ≤ t) = false := decide_eq_false c1
        clear c1
        obtain rfl := Option.some.inj H
        go_wp2_with ((with_reducible refine zd (f := 81) rfl ?_); refine zn (some 10) rfl rfl Try.func81 (by kernel_rfl) rfl #[.int .i64 n] rfl (by (try simp only [List.map_toArray, List.map_cons, List.map_nil]); first | done | rfl) ?_; (with_reducible refine (jz.calls n t _ AT.out).mono ?_); rintro e w' ⟨rfl, ⟨nd, rfl⟩⟩; refine ⟨_, rfl, ?_⟩)
        go_ret
        exact ⟨_, rfl, sqR HO.out, sqB⟩
end Go.Proofs.Yteggmbhcnhbamaa.F
end
section
namespace Go.Proofs.Yteggmbhcnhbamaa.F
open Go.RowKit Go.Proofs.YteggmbhcnhbamaaW.PrintWords Go.Proofs.YteggmbhcnhbamaaW.PrintLast Go.Proofs.YteggmbhcnhbamaaW.PrintMore
set_option linter.unusedSimpArgs false
set_option linter.unusedVariables false
def qZ.q (k : Nat) (n : Int) (l : List Int) (s : Int) : Option Bool := (qa.f k n l s).bind fun t => some (t == s)
def qZ.f (k : Nat) (a0_0 : Int) (l0_1 : List Int) : Option (List Int) := vE (qZ.q k a0_0 l0_1) k a0_0 [] 0
theorem qZ.pred (k : Nat) (l : List Int) (n : Int) (A : Option Addr) (c gm : Nat) (w : World) (hm : w.heap[gm]? = some (.cells #[.int .i64 n, .slice A l.length c] 27 (0, 0)))
    (hr : Kd.C (Kd.int .i64) w A l.length l) (hc : l.length ≤ c) : y8 140 #[.pointer (some ⟨gm, 0, none⟩)] (qZ.q k n l) w := by
  intro W x r hq hb
  unfold qZ.q at hq
  obtain ⟨t, ht, hq⟩ := Option.bind_eq_some_iff.mp hq
  obtain rfl := Option.some.inj hq
  have hc0 : W.cell? ⟨gm, 0, none⟩ = some (.int .i64 n) := (zb (ze hm hb) 0).trans rfl
  have hc1 : W.cell? ⟨gm, 1, none⟩ = some (.slice A l.length c) := (zb (ze hm hb) 1).trans rfl
  have HR := Aside0.mk (Kd.zp hr hb)
  have HC := Aside0.mk hc
  have H := Aside0.mk ht
  have hu := Try.underlying27
  clear hq ht hm hr hc hb
  go_enter Try.func140, Try.ntmps140
  go_wp2_with (go_at_call 141; (try simp only [zj, zo]); (with_reducible refine (qa.calls k n _ _ l x t _ HR.out HC.out H.out).mono ?_); rintro e w' ⟨rfl, hb⟩)
  go_ret
  exact ⟨by first | rfl | simp, by first | exact hb | (obtain ⟨nd, rfl⟩ := hb; exact qh (Below.refl _ _) nd)⟩
theorem qZ.calls (k : Nat) (a0_0 : Int) (A0_1 : Option Addr) (c0_1 : Nat) (l0_1 : List Int) (r : List Int) (w : World) (hr0_1 : Kd.C (Kd.int .i64) w A0_1 l0_1.length l0_1) (hc0_1 : l0_1.length ≤ c0_1) (h : qZ.f k a0_0 l0_1 = some r) :
    Calls Try.prog 133 #[.agg #[.int .i64 a0_0, .slice A0_1 l0_1.length c0_1]] w fun e w' => ∃ v0_ : Value, e = .returned (v0_) ∧ Kd.R (Kd.int .i64) 3 w' w.heap.size (fun _ => True) v0_ r ∧ Below w.heap.size w w' := by
  have hum := Try.underlying27
  have HR := Aside0.mk hr0_1
  have HC := Aside0.mk hc0_1
  have H := Aside0.mk h
  clear hr0_1 hc0_1 h
  go_enter Try.func133, Try.ntmps133
  go_wp2_with ((with_reducible refine zi (N := 1) rfl ?_); refine zl ?hg (N := 1) ?hd (cs := #[.int .i64 a0_0, .slice A0_1 l0_1.length c0_1]) (t := 27) ?hr ?_; (case hd => rfl); (case hg => rfl); (case hr => exact sqG); intro gm hg w4 hbox hb; have HB1 := Aside0.mk hb; have BKm := Aside0.mk hbox; have hcz0 : w4.cell? ⟨gm, 0, none⟩ = some (.int .i64 a0_0) := (zb BKm.out 0).trans rfl; have hcz1 : w4.cell? ⟨gm, 1, none⟩ = some (.slice A0_1 l0_1.length c0_1) := (zb BKm.out 1).trans rfl; clear hb hbox hg)
  refine (vr (qZ.q k a0_0 l0_1) _ _ (enters_of Try.func140 (by kernel_rfl) rfl) k a0_0 r _ (qZ.pred k l0_1 a0_0 _ c0_1 gm _ BKm.out (Kd.zp HR.out HB1.out) HC.out) H.out).mono ?_
  rintro e w9 ⟨v, rfl, ho, hb⟩
  have HO := Aside0.mk (Kd.zD ho (zg HB1.out))
  have HB := Aside0.mk (zc HB1.out hb)
  clear ho hb hcz0 hcz1
  go_wp2
  go_ret
  exact ⟨_, rfl, HO.out, HB.out⟩
end Go.Proofs.Yteggmbhcnhbamaa.F
end
section
namespace Go.Proofs.Yteggmbhcnhbamaa.F
open Go.RowKit Go.Proofs.YteggmbhcnhbamaaW.PrintWords Go.Proofs.YteggmbhcnhbamaaW.PrintLast Go.Proofs.YteggmbhcnhbamaaW.PrintMore
attribute [local go_sem] qJ qM q2 q4 qy qx qL qK   -- for this text's walks alone
set_option linter.unusedVariables false
set_option linter.unusedSimpArgs false

def vq.f (k : Nat) (a0_0 : Int) (l0_1 : List Int) : Option (List Int) := (zZ.f k a0_0 l0_1).bind fun t791 => (if t791 = true then ((qZ.f k a0_0 l0_1).bind fun t792 => (some t792)) else (some ([] : List Int)))
theorem vq.calls (k : Nat) (a0_0 : Int) (A0_1 : Option Addr) (c0_1 : Nat) (l0_1 : List Int) (r : List Int) (w : World) (hr0_1 : Kd.C (Kd.int .i64) w A0_1 l0_1.length l0_1) (hc0_1 : l0_1.length ≤ c0_1) (h : vq.f k a0_0 l0_1 = some r) :
  Calls Try.prog 119 #[.agg #[.int .i64 a0_0, .slice A0_1 l0_1.length c0_1]] w fun e w' => ∃ v0_ : Value, e = .returned (v0_) ∧ Kd.R (Kd.int .i64) 3 w' w.heap.size (fun _ => True) v0_ r ∧ Below w.heap.size w w' := by
 have hu27 := Try.underlying27
 have HR0_1 := Aside0.mk hr0_1
 have HC0_1 := Aside0.mk hc0_1
 clear hr0_1 hc0_1
 have HB := Aside0.mk (Below.refl w.heap.size w)
 have H : ((zZ.f k a0_0 l0_1).bind fun t791 => (if t791 = true then ((qZ.f k a0_0 l0_1).bind fun t792 => (some t792)) else (some ([] : List Int)))) = some r := h
 clear h
 replace H := Option.bind_eq_some_iff.mp H
 obtain ⟨t791, A20, H⟩ := H
 replace H : (if t791 = true then ((qZ.f k a0_0 l0_1).bind fun t792 => (some t792)) else (some ([] : List Int))) = some r := H
 have A2 := Aside0.mk A20
 clear A20
 by_cases c3 : t791 = true
 ·subst c3
  have H1 : ((qZ.f k a0_0 l0_1).bind fun t792 => (some t792)) = some r := by rw [if_pos rfl] at H; exact H
  clear H
  have H := H1
  clear H1
  replace H := Option.bind_eq_some_iff.mp H
  obtain ⟨t792, A40, H⟩ := H
  replace H : (some t792) = some r := H
  have A4 := Aside0.mk A40
  clear A40
  obtain rfl := Option.some.inj H
  go_enter Try.func119, Try.ntmps119
  go_wp2_with (first | ((with_reducible refine zi (N := 1) rfl ?_); refine zl ?hg (N := 1) ?hd (cs := #[.int .i64 a0_0, .slice A0_1 l0_1.length c0_1]) (t := 27) ?hr ?_; (case hd => rfl); (case hg => rfl); (case hr => exact sqG); intro gb790 hg w5 hbox hb; have n0_ := Aside0.mk (zc sqB hb); have n1_ := Aside0.mk (hbox); have n2_ := Aside0.mk ((sqS hg : w.heap.size ≤ gb790)); have n3_ := Aside0.mk ((sqS hg : w.heap.size ≤ gb790)); clear HB; have HB := n0_; have BK790 := n1_; have GW790 := n2_; have GE790 := n3_; clear n0_ n1_ n2_ n3_; clear hb hbox hg; have hcz6_0 : w5.cell? ⟨gb790, 0, none⟩ = some (.int .i64 a0_0) := (zb BK790.out 0).trans rfl; have hcz6_1 : w5.cell? ⟨gb790, 1, none⟩ = some (.slice A0_1 l0_1.length c0_1) := (zb BK790.out 1).trans rfl; have hfz6_0 := za BK790.out 0; have hfz6_1 := za BK790.out 1) | ((with_reducible refine zd (f := 42) rfl ?_); refine zn (some 4) rfl rfl Try.func42 (by kernel_rfl) rfl #[.agg #[.int .i64 a0_0, .slice A0_1 l0_1.length c0_1]] rfl sqM ?_; (with_reducible refine (zZ.calls k a0_0 _ _ l0_1 true _ ?side1 ?side2 A2.out).mono ?_); (case side1 => exact sqC (Kd.zp HR0_1.out HB.out)); (case side2 => exact HC0_1.out); rintro e w7 ⟨rfl, hb⟩; refine ⟨_, rfl, ?_⟩; have n0_ := Aside0.mk (ze (g := gb790) (o := .cells #[.int .i64 a0_0, .slice A0_1 l0_1.length c0_1] 27 (0, 0)) (sqK BK790.out) hb); have n1_ := Aside0.mk (zc sqB hb); clear BK790; clear HB; have BK790 := n0_; have HB := n1_; clear n0_ n1_; (try clear hb); (try clear hb2); (try clear hk); (try clear hi); have hcz8_0 : w7.cell? ⟨gb790, 0, none⟩ = some (.int .i64 a0_0) := (zb BK790.out 0).trans rfl; have hcz8_1 : w7.cell? ⟨gb790, 1, none⟩ = some (.slice A0_1 l0_1.length c0_1) := (zb BK790.out 1).trans rfl; have hfz8_0 := za BK790.out 0; have hfz8_1 := za BK790.out 1) | ((with_reducible refine zd (f := 133) rfl ?_); refine zn (some 7) rfl rfl Try.func133 (by kernel_rfl) rfl #[.agg #[.int .i64 a0_0, .slice A0_1 l0_1.length c0_1]] rfl sqM ?_; (with_reducible refine (qZ.calls k a0_0 _ _ l0_1 t792 _ ?side1 ?side2 A4.out).mono ?_); (case side1 => exact sqC (Kd.zp HR0_1.out HB.out)); (case side2 => exact HC0_1.out); rintro e w9 ⟨v793, rfl, ho0, hb⟩; refine ⟨_, rfl, ?_⟩; have n0_ := Aside0.mk (Kd.zD ho0 (zg sqB)); have n1_ := Aside0.mk (ze (g := gb790) (o := .cells #[.int .i64 a0_0, .slice A0_1 l0_1.length c0_1] 27 (0, 0)) (sqK BK790.out) hb); have n2_ := Aside0.mk (zc sqB hb); clear BK790; clear HB; have HO794 := n0_; have BK790 := n1_; have HB := n2_; clear n0_ n1_ n2_; (try clear hb); (try clear hb2); (try clear hk); (try clear hi); (try clear ho0)))
  go_ret
  exact ⟨_, sqE, sqR HO794.out, sqB⟩
 ·replace c3 := Bool.eq_false_iff.mpr c3
  subst c3
  have H1 : (some ([] : List Int)) = some r := by rw [if_neg (show ¬ (false = true) by decide)] at H; exact H
  clear H
  have H := H1
  clear H1
  obtain rfl := Option.some.inj H
  go_enter Try.func119, Try.ntmps119
  go_wp2_with (first | ((with_reducible refine zi (N := 1) rfl ?_); refine zl ?hg (N := 1) ?hd (cs := #[.int .i64 a0_0, .slice A0_1 l0_1.length c0_1]) (t := 27) ?hr ?_; (case hd => rfl); (case hg => rfl); (case hr => exact sqG); intro gb790 hg w10 hbox hb; have n0_ := Aside0.mk (zc sqB hb); have n1_ := Aside0.mk (hbox); have n2_ := Aside0.mk ((sqS hg : w.heap.size ≤ gb790)); have n3_ := Aside0.mk ((sqS hg : w.heap.size ≤ gb790)); clear HB; have HB := n0_; have BK790 := n1_; have GW790 := n2_; have GE790 := n3_; clear n0_ n1_ n2_ n3_; clear hb hbox hg; have hcz11_0 : w10.cell? ⟨gb790, 0, none⟩ = some (.int .i64 a0_0) := (zb BK790.out 0).trans rfl; have hcz11_1 : w10.cell? ⟨gb790, 1, none⟩ = some (.slice A0_1 l0_1.length c0_1) := (zb BK790.out 1).trans rfl; have hfz11_0 := za BK790.out 0; have hfz11_1 := za BK790.out 1) | ((with_reducible refine zd (f := 42) rfl ?_); refine zn (some 4) rfl rfl Try.func42 (by kernel_rfl) rfl #[.agg #[.int .i64 a0_0, .slice A0_1 l0_1.length c0_1]] rfl sqM ?_; (with_reducible refine (zZ.calls k a0_0 _ _ l0_1 false _ ?side1 ?side2 A2.out).mono ?_); (case side1 => exact sqC (Kd.zp HR0_1.out HB.out)); (case side2 => exact HC0_1.out); rintro e w12 ⟨rfl, hb⟩; refine ⟨_, rfl, ?_⟩; have n0_ := Aside0.mk (ze (g := gb790) (o := .cells #[.int .i64 a0_0, .slice A0_1 l0_1.length c0_1] 27 (0, 0)) (sqK BK790.out) hb); have n1_ := Aside0.mk (zc sqB hb); clear BK790; clear HB; have BK790 := n0_; have HB := n1_; clear n0_ n1_; (try clear hb); (try clear hb2); (try clear hk); (try clear hi)))
  go_ret
  exact ⟨_, sqE, sqN, sqB⟩

def z1.l0 : Nat → Int → List Int → List Int → Int → Int → Int → List Int → Option (List Int)
 | 0, _, _, _, _, _, _, _ => none
 | k + 1, x1, x5, x10, x11, x12, x796000, x796001 => if x12 < x11 then (if 0 ≤ x12 then (if x12 < (x10.length : Int) then ((qD.f k x796000 x796001 (rd x10 x12)).bind fun t803 => (if t803 = x1 then (if x5.length < 17592186044416 then (z1.l0 k x1 (x5 ++ [rd x10 x12]) x10 x11 (wrap64 (x12 + 1)) x796000 x796001) else (none)) else (z1.l0 k x1 x5 x10 x11 (wrap64 (x12 + 1)) x796000 x796001))) else (none)) else (none)) else (some x5)
def z1.f (k : Nat) (a0_0 : Int) (l0_1 : List Int) (a1 : Int) : Option (List Int) := (vq.f k a0_0 l0_1).bind fun t799 => (z1.l0 k a1 (([] : List Int)) t799 (t799.length : Int) 0 a0_0 l0_1)
theorem z1.calls (k : Nat) (a0_0 : Int) (A0_1 : Option Addr) (c0_1 : Nat) (l0_1 : List Int) (a1 : Int) (r : List Int) (w : World) (hr0_1 : Kd.C (Kd.int .i64) w A0_1 l0_1.length l0_1) (hc0_1 : l0_1.length ≤ c0_1) (h : z1.f k a0_0 l0_1 a1 = some r) :
  Calls Try.prog 106 #[.agg #[.int .i64 a0_0, .slice A0_1 l0_1.length c0_1], .int .i64 a1] w fun e w' => ∃ v0_ : Value, e = .returned (v0_) ∧ Kd.R (Kd.int .i64) 3 w' w.heap.size (fun _ => True) v0_ r ∧ Below w.heap.size w w' := by
 have hu27 := Try.underlying27
 have HR0_1 := Aside0.mk hr0_1
 have HC0_1 := Aside0.mk hc0_1
 clear hr0_1 hc0_1
 have HB := Aside0.mk (Below.refl w.heap.size w)
 have H : ((vq.f k a0_0 l0_1).bind fun t799 => (z1.l0 k a1 (([] : List Int)) t799 (t799.length : Int) 0 a0_0 l0_1)) = some r := h
 clear h
 obtain ⟨y796, hy796⟩ : ∃ y_ : List Int, y_ = (([] : List Int)) := ⟨_, rfl⟩
 replace H : ((vq.f k a0_0 l0_1).bind fun t799 => (z1.l0 k a1 y796 t799 (t799.length : Int) 0 a0_0 l0_1)) = some r := by first | (rw [hy796]; with_reducible exact H) | (have H2_ := (Option.bind_some _ _).symm.trans H; rw [hy796]; with_reducible exact H2_) | (have H2_ := (Option.bind_some _ _).symm.trans H; with_reducible exact H2_) | with_reducible exact H | (rw [hy796]; exact H) | exact H
 have Ny796 := Aside0.mk hy796
 clear hy796
 replace H := Option.bind_eq_some_iff.mp H
 obtain ⟨t799, A30, H⟩ := H
 replace H : (z1.l0 k a1 y796 t799 (t799.length : Int) 0 a0_0 l0_1) = some r := H
 have A3 := Aside0.mk A30
 clear A30
 have H' := Aside0.mk H
 clear H
 go_enter Try.func106, Try.ntmps106
 go_wp2_with (first | ((with_reducible refine zi (N := 2) rfl ?_); refine zl ?hg (N := 2) ?hd (cs := #[.int .i64 a0_0, .slice A0_1 l0_1.length c0_1]) (t := 27) ?hr ?_; (case hd => rfl); (case hg => rfl); (case hr => exact sqG); intro gb795 hg w4 hbox hb; have n0_ := Aside0.mk (zc sqB hb); have n1_ := Aside0.mk (hbox); have n2_ := Aside0.mk ((sqS hg : w.heap.size ≤ gb795)); have n3_ := Aside0.mk ((sqS hg : w.heap.size ≤ gb795)); clear HB; have HB := n0_; have BK795 := n1_; have GW795 := n2_; have GE795 := n3_; clear n0_ n1_ n2_ n3_; clear hb hbox hg) | ((with_reducible refine zi (N := 8) rfl ?_); refine Kd.jx (Kd.int .i64) _ 3 ?hg (N := 8) ?hd (xs := ([] : List Int)) (inner := []) (ok := fun _ => True) (okp := fun _ => True) ?hr ?hp (fun _ hk => hk) trivial (Below.refl _ _) (Nat.le_refl _) (by simp) ?_; (case hd => rfl); (case hg => rfl); (case hr => exact sqG); (case hp => exact (qT.none _ _)); intro v797 w5 ho6 hb hg_ hnew_; clear hg_ hnew_; (first | rw [← Ny796.out] at ho6 | (simp only [Int.reduceToNat] at ho6; rw [← Ny796.out] at ho6)); have n0_ := Aside0.mk (Kd.zD ho6 (zg sqB)); have n1_ := Aside0.mk (ze (g := gb795) (o := .cells #[.int .i64 a0_0, .slice A0_1 l0_1.length c0_1] 27 (0, 0)) (sqK BK795.out) hb); have n2_ := Aside0.mk (zc sqB hb); clear BK795; clear HB; have HO798 := n0_; have BK795 := n1_; have HB := n2_; clear n0_ n1_ n2_; clear hb ho6; have hcz7_0 : w5.cell? ⟨gb795, 0, none⟩ = some (.int .i64 a0_0) := (zb BK795.out 0).trans rfl; have hcz7_1 : w5.cell? ⟨gb795, 1, none⟩ = some (.slice A0_1 l0_1.length c0_1) := (zb BK795.out 1).trans rfl; have hfz7_0 := za BK795.out 0; have hfz7_1 := za BK795.out 1) | ((with_reducible refine zd (f := 119) rfl ?_); refine zn (some 10) rfl rfl Try.func119 (by kernel_rfl) rfl #[.agg #[.int .i64 a0_0, .slice A0_1 l0_1.length c0_1]] rfl sqM ?_; (with_reducible refine (vq.calls k a0_0 _ _ l0_1 t799 _ ?side1 ?side2 A3.out).mono ?_); (case side1 => exact sqC (Kd.zp HR0_1.out HB.out)); (case side2 => exact HC0_1.out); rintro e w8 ⟨v800, rfl, ho0, hb⟩; refine ⟨_, rfl, ?_⟩; have n0_ := Aside0.mk (Kd.zU (sqR HO798.out) (Kd.qt ho0) hb); have n1_ := Aside0.mk (Kd.zD (Kd.qu ho0 (Kd.jd (sqR HO798.out))) (zg sqB)); have n2_ := Aside0.mk (ze (g := gb795) (o := .cells #[.int .i64 a0_0, .slice A0_1 l0_1.length c0_1] 27 (0, 0)) (sqK BK795.out) hb); have n3_ := Aside0.mk (zc sqB hb); clear HO798; clear BK795; clear HB; have HO798 := n0_; have HO801 := n1_; have BK795 := n2_; have HB := n3_; clear n0_ n1_ n2_ n3_; (try clear hb); (try clear hb2); (try clear hk); (try clear hi); (try clear ho0); obtain ⟨Ao9, co9, eo9⟩ := Kd.zR HO801.out; subst eo9))
 go_loopg [5, 12] k (fun kq v5 v12 w' => ∃ (x5_1 : List Int) (x12_1 : Int), v12 = .int .i64 x12_1 ∧ Aside0 (z1.l0 kq a1 x5_1 t799 (t799.length : Int) x12_1 a0_0 l0_1 = some r) ∧ Aside0 (kq ≤ k) ∧ Aside0 (Kd.R (Kd.int .i64) 3 w' w.heap.size (fun k_ => some k_ ≠ ((.slice Ao9 t799.length co9) : Value).ownBlock) v5 x5_1) ∧ Aside0 (Kd.R (Kd.int .i64) 3 w' w.heap.size (fun k_ => some k_ ≠ (v5 : Value).ownBlock) (.slice Ao9 t799.length co9) t799) ∧ Aside0 (w'.heap[gb795]? = some (.cells #[.int .i64 a0_0, (.slice A0_1 l0_1.length c0_1)] 27 (0, 0))) ∧ Aside0 (Below w.heap.size w w'))
 case atStart => exact ⟨(y796), (0), (sqD), H', ⟨Nat.le_refl _⟩, ⟨by refine sqR ?_; exact Kd.zu HO798.out (fun _ hk => hk.2)⟩, ⟨by refine sqR ?_; exact Kd.zu HO801.out (fun _ hk => hk.2)⟩, ⟨sqK BK795.out⟩, ⟨sqB⟩⟩
 case round =>
  clear H'
  try clear c1
  try clear p2
  try clear hcz7_0
  try clear hcz7_1
  try clear hfz7_0
  try clear hfz7_1
  obtain ⟨x5_1, x12_1, rfl, HA, HK1, HO_5, HO_10, BK795, HB⟩ := hrel
  cases gk with
  | zero => exact absurd HA.out (by simp [z1.l0])
  | succ k1 =>
   have H := HA.out
   clear HA
   simp only [z1.l0] at H
   by_cases c10 : x12_1 < (t799.length : Int)
   ·rw [if_pos c10] at H
    have c10b0 : decide (x12_1 < (t799.length : Int)) = true := decide_eq_true c10
    clear c10
    by_cases c11 : 0 ≤ x12_1
    ·rw [if_pos c11] at H
     have c11b0 : decide (0 ≤ x12_1) = true := decide_eq_true c11
     clear c11
     by_cases c12 : x12_1 < (t799.length : Int)
     ·rw [if_pos c12] at H
      have c12b0 : decide (x12_1 < (t799.length : Int)) = true := decide_eq_true c12
      clear c12
      replace H := Option.bind_eq_some_iff.mp H
      obtain ⟨t803, A130, H⟩ := H
      replace H : (if t803 = a1 then (if x5_1.length < 17592186044416 then (z1.l0 k1 a1 (x5_1 ++ [rd t799 x12_1]) t799 (t799.length : Int) (wrap64 (x12_1 + 1)) a0_0 l0_1) else (none)) else (z1.l0 k1 a1 x5_1 t799 (t799.length : Int) (wrap64 (x12_1 + 1)) a0_0 l0_1)) = some r := H
      have A13 := Aside0.mk A130
      clear A130
      by_cases c14 : t803 = a1
      ·rw [if_pos c14] at H
       have c14b0 : (t803 == a1) = true := beq_iff_eq.mpr c14
       have c14b1 : (t803 != a1) = false := bne_eq_false_iff_eq.mpr c14
       clear c14
       by_cases c15 : x5_1.length < 17592186044416
       ·rw [if_pos c15] at H
        have LMc15 := Aside0.mk c15
        clear c15
        obtain ⟨y804, hy804⟩ : ∃ y_ : List Int, y_ = (x5_1 ++ [rd t799 x12_1]) := ⟨_, rfl⟩
        replace H : (z1.l0 k1 a1 y804 t799 (t799.length : Int) (wrap64 (x12_1 + 1)) a0_0 l0_1) = some r := by first | (rw [hy804]; with_reducible exact H) | (have H2_ := (Option.bind_some _ _).symm.trans H; rw [hy804]; with_reducible exact H2_) | (have H2_ := (Option.bind_some _ _).symm.trans H; with_reducible exact H2_) | with_reducible exact H | (rw [hy804]; exact H) | exact H
        have Ny804 := Aside0.mk hy804
        clear hy804
        have H' := Aside0.mk H
        clear H
        have p802 : 0 ≤ (x12_1 : Int) := of_decide_eq_true sqA
        have q802 : x12_1 < (t799.length : Int) := of_decide_eq_true sqA
        obtain ⟨ad802, e802, hx802_0⟩ := Kd.zT (Kd.zh HO_10.out).2.2 x12_1 p802 q802
        cases e802
        replace p802 := eq_true p802
        replace q802 := eq_true q802
        have hcz16_0 : wr.cell? ⟨gb795, 0, none⟩ = some (.int .i64 a0_0) := (zb BK795.out 0).trans rfl
        have hcz16_1 : wr.cell? ⟨gb795, 1, none⟩ = some (.slice A0_1 l0_1.length c0_1) := (zb BK795.out 1).trans rfl
        have hfz16_0 := za BK795.out 0
        have hfz16_1 := za BK795.out 1
        go_wp2_with (first | ((with_reducible refine zd (f := 101) rfl ?_); refine zn (some 18) rfl rfl Try.func101 (by kernel_rfl) rfl #[.agg #[.int .i64 a0_0, .slice A0_1 l0_1.length c0_1], .int .i64 (rd t799 x12_1)] rfl sqM ?_; (with_reducible refine (qD.calls k1 a0_0 _ _ l0_1 (rd t799 x12_1) t803 _ ?side1 ?side2 A13.out).mono ?_); (case side1 => exact sqC (Kd.zp HR0_1.out HB.out)); (case side2 => exact HC0_1.out); rintro e w17 ⟨rfl, hb⟩; refine ⟨_, rfl, ?_⟩; have n0_ := Aside0.mk (Kd.zz (sqR HO_5.out) hb); have n1_ := Aside0.mk (Kd.zz (sqR HO_10.out) hb); have n2_ := Aside0.mk (ze (g := gb795) (o := .cells #[.int .i64 a0_0, .slice A0_1 l0_1.length c0_1] 27 (0, 0)) (sqK BK795.out) hb); have n3_ := Aside0.mk (zc sqB hb); clear HO_5; clear HO_10; clear BK795; clear HB; have HO_5 := n0_; have HO_10 := n1_; have BK795 := n2_; have HB := n3_; clear n0_ n1_ n2_ n3_; (try clear hb); (try clear hb2); (try clear hk); (try clear hi)) | ((with_reducible refine qN (b := .append) (xs := #[.tmp 21, .tmp 23]) rfl ?_); at_builtin; refine Kd.jA (Kd.int .i64) (w0 := w) w.heap.size rfl (.tmp 21) (.tmp 23) 22 3 (.int .i64 0) 8 rfl Try.underlying22 jO rfl (by decide) (by omega) u5 x5_1 (rd t799 x12_1) [.int .i64 (rd t799 x12_1)] (fun k_ => some k_ ≠ (.slice (some ad802) t799.length co9 : Value).ownBlock) (fun _ => False) rfl rfl ?aP (fun _ hk => hk.elim) ?aF ?aO ?aB ?aS ?aL ?_; (case aP => exact rfl); (case aB => exact sqB); (case aF => exact (fun k_ hk => Kd.yI (Kd.jd (sqR HO_10.out)) k_ hk)); (case aO => exact (sqR HO_5.out)); (case aS => exact (zg sqB)); (case aL => have := LMc15.out; omega); intro v805 w18 ho hb hg hat; rw [← Ny804.out] at ho; have n0_ := Aside0.mk (Kd.vk (ok := (fun _ => True)) (by refine sqR ?_; exact Kd.zu HO_10.out (fun _ hk => ⟨trivial, by first | exact hk | exact fun h_ => hk (h_.trans ((fun (A : Option Addr) (x y c : Nat) => (by cases A <;> rfl : (Value.slice A x c).ownBlock = (Value.slice A y c).ownBlock)) _ _ _ _))⟩)) hg hat); have n1_ := Aside0.mk (yn (g := gb795) (o := .cells #[.int .i64 a0_0, .slice A0_1 l0_1.length c0_1] 27 (0, 0)) (sqK BK795.out) hg (Kd.Jd HO_5.out BK795.out (by decide))); have n2_ := Aside0.mk (hb); have n3_ := Aside0.mk (ho); clear HO_10; clear BK795; clear HB; clear HO_5; have HO_10 := n0_; have BK795 := n1_; have HB := n2_; have HO806 := n3_; clear n0_ n1_ n2_ n3_; clear ho hb hg hat))
        go_roundg k1
        case measure => have := HK1.out; omega
        case rel => exact ⟨(y804), (wrap64 (x12_1 + 1)), (sqD), H', ⟨by have := HK1.out; omega⟩, ⟨sqR HO806.out⟩, ⟨by refine sqR ?_; exact Kd.zu HO_10.out (fun _ hk => hk.2)⟩, ⟨sqK BK795.out⟩, ⟨sqB⟩⟩
       ·rw [if_neg c15] at H
        exact absurd H (by simp)
      ·rw [if_neg c14] at H
       have c14b0 : (t803 == a1) = false := beq_eq_false_iff_ne.mpr c14
       have c14b1 : (t803 != a1) = true := bne_iff_ne.mpr c14
       have H' := Aside0.mk H
       clear H
       have p802 : 0 ≤ (x12_1 : Int) := of_decide_eq_true sqA
       have q802 : x12_1 < (t799.length : Int) := of_decide_eq_true sqA
       obtain ⟨ad802, e802, hx802_0⟩ := Kd.zT (Kd.zh HO_10.out).2.2 x12_1 p802 q802
       cases e802
       replace p802 := eq_true p802
       replace q802 := eq_true q802
       have hcz19_0 : wr.cell? ⟨gb795, 0, none⟩ = some (.int .i64 a0_0) := (zb BK795.out 0).trans rfl
       have hcz19_1 : wr.cell? ⟨gb795, 1, none⟩ = some (.slice A0_1 l0_1.length c0_1) := (zb BK795.out 1).trans rfl
       have hfz19_0 := za BK795.out 0
       have hfz19_1 := za BK795.out 1
       go_wp2_with (first | ((with_reducible refine zd (f := 101) rfl ?_); refine zn (some 18) rfl rfl Try.func101 (by kernel_rfl) rfl #[.agg #[.int .i64 a0_0, .slice A0_1 l0_1.length c0_1], .int .i64 (rd t799 x12_1)] rfl sqM ?_; (with_reducible refine (qD.calls k1 a0_0 _ _ l0_1 (rd t799 x12_1) t803 _ ?side1 ?side2 A13.out).mono ?_); (case side1 => exact sqC (Kd.zp HR0_1.out HB.out)); (case side2 => exact HC0_1.out); rintro e w20 ⟨rfl, hb⟩; refine ⟨_, rfl, ?_⟩; have n0_ := Aside0.mk (Kd.zz (sqR HO_5.out) hb); have n1_ := Aside0.mk (Kd.zz (sqR HO_10.out) hb); have n2_ := Aside0.mk (ze (g := gb795) (o := .cells #[.int .i64 a0_0, .slice A0_1 l0_1.length c0_1] 27 (0, 0)) (sqK BK795.out) hb); have n3_ := Aside0.mk (zc sqB hb); clear HO_5; clear HO_10; clear BK795; clear HB; have HO_5 := n0_; have HO_10 := n1_; have BK795 := n2_; have HB := n3_; clear n0_ n1_ n2_ n3_; (try clear hb); (try clear hb2); (try clear hk); (try clear hi)))
       go_roundg k1
       case measure => have := HK1.out; omega
       case rel => exact ⟨(x5_1), (wrap64 (x12_1 + 1)), (sqD), H', ⟨by have := HK1.out; omega⟩, ⟨sqR HO_5.out⟩, ⟨sqR HO_10.out⟩, ⟨sqK BK795.out⟩, ⟨sqB⟩⟩
     ·rw [if_neg c12] at H
      exact absurd H (by simp)
    ·rw [if_neg c11] at H
     exact absurd H (by simp)
   ·rw [if_neg c10] at H
    have c10b0 : decide (x12_1 < (t799.length : Int)) = false := decide_eq_false c10
    clear c10
    obtain rfl := Option.some.inj H
    go_wp2
    go_ret
    exact ⟨_, sqE, by refine sqR ?_; exact Kd.zu HO_5.out (fun _ hk => trivial), sqB⟩

def qP.f (k : Nat) (a0_0 : Int) (l0_1 : List Int) : Option (List Int) := (jm.f k a0_0 l0_1).bind fun t812 => ((z1.f k a0_0 l0_1 (wrap64 (t812 - 1))).bind fun t813 => (some t813))
theorem qP.calls (k : Nat) (a0_0 : Int) (A0_1 : Option Addr) (c0_1 : Nat) (l0_1 : List Int) (r : List Int) (w : World) (hr0_1 : Kd.C (Kd.int .i64) w A0_1 l0_1.length l0_1) (hc0_1 : l0_1.length ≤ c0_1) (h : qP.f k a0_0 l0_1 = some r) :
  Calls Try.prog 74 #[.agg #[.int .i64 a0_0, .slice A0_1 l0_1.length c0_1]] w fun e w' => ∃ v0_ : Value, e = .returned (v0_) ∧ Kd.R (Kd.int .i64) 3 w' w.heap.size (fun _ => True) v0_ r ∧ Below w.heap.size w w' := by
 have hu27 := Try.underlying27
 have HR0_1 := Aside0.mk hr0_1
 have HC0_1 := Aside0.mk hc0_1
 clear hr0_1 hc0_1
 have HB := Aside0.mk (Below.refl w.heap.size w)
 have H : ((jm.f k a0_0 l0_1).bind fun t812 => ((z1.f k a0_0 l0_1 (wrap64 (t812 - 1))).bind fun t813 => (some t813))) = some r := h
 clear h
 replace H := Option.bind_eq_some_iff.mp H
 obtain ⟨t812, A20, H⟩ := H
 replace H : ((z1.f k a0_0 l0_1 (wrap64 (t812 - 1))).bind fun t813 => (some t813)) = some r := H
 have A2 := Aside0.mk A20
 clear A20
 replace H := Option.bind_eq_some_iff.mp H
 obtain ⟨t813, A30, H⟩ := H
 replace H : (some t813) = some r := H
 have A3 := Aside0.mk A30
 clear A30
 obtain rfl := Option.some.inj H
 go_enter Try.func74, Try.ntmps74
 try go_wp2_with (first | ((with_reducible refine zi (N := 1) rfl ?_); refine zl ?hg (N := 1) ?hd (cs := #[.int .i64 a0_0, .slice A0_1 l0_1.length c0_1]) (t := 27) ?hr ?_; (case hd => rfl); (case hg => rfl); (case hr => exact sqG); intro gb811 hg w4 hbox hb; have n0_ := Aside0.mk (zc sqB hb); have n1_ := Aside0.mk (hbox); have n2_ := Aside0.mk ((sqS hg : w.heap.size ≤ gb811)); have n3_ := Aside0.mk ((sqS hg : w.heap.size ≤ gb811)); clear HB; have HB := n0_; have BK811 := n1_; have GW811 := n2_; have GE811 := n3_; clear n0_ n1_ n2_ n3_; clear hb hbox hg))
 have n0_ := Aside0.mk (jl BK811.out)
 have n1_ := Aside0.mk (qi HB.out)
 clear BK811
 clear HB
 have BK811 := n0_
 have HB := n1_
 clear n0_ n1_
 refine jS (n := 6) (S := fun w' => w'.cell? ⟨gb811, 0, none⟩ = some (.int .i64 a0_0) ∧ w'.cell? ⟨gb811, 1, none⟩ = some (.slice A0_1 l0_1.length c0_1)) (ds := []) #[false, false, false, false, false, false] (by kernel_rfl) rfl rfl ⟨(zb BK811.out 0).trans rfl, (zb BK811.out 1).trans rfl⟩ (fun hHeld => ?_)
 generalize w4.drew = w5 at BK811 HB hHeld ⊢
 refine jy (i := 0) (N := some 3) (v := ?_) (a' := ?_) #[true, false, false, false, false, false] rfl rfl (by kernel_rfl) (fun _ _ _ h => h) (Or.inl ⟨by rfl, ?_⟩) hHeld ?_ ?_
 rotate_left
 ·rintro w' ⟨s0, s1⟩
  go_simp
  with_reducible rfl
 rotate_left
 ·simp only [Act.put, List.setIfInBounds_toArray, List.set_cons_zero, List.set_cons_succ, zj, zo]
  rfl
 refine jy (i := 1) (N := some 4) (v := ?_) (a' := ?_) #[true, true, false, false, false, false] rfl rfl (by kernel_rfl) (fun _ _ _ h => h) (Or.inl ⟨by rfl, ?_⟩) hHeld ?_ ?_
 rotate_left
 ·rintro w' ⟨s0, s1⟩
  go_simp
  with_reducible rfl
 rotate_left
 ·simp only [Act.put, List.setIfInBounds_toArray, List.set_cons_zero, List.set_cons_succ, zj, zo]
  rfl
 refine yc (i := 2) (N := some 5) #[true, true, true, false, false, false] rfl rfl (by kernel_rfl) (by decide) (fun K hK => ?_)
 refine yf Try.func107 (by kernel_rfl) rfl #[.agg #[.int .i64 a0_0, .slice A0_1 l0_1.length c0_1]] (by rfl) rfl rfl sqM ?_
 with_reducible refine (jm.calls k a0_0 _ _ l0_1 t812 _ ?side1 ?side2 A2.out).mono ?_
 (case side1 => exact sqC (Kd.zp HR0_1.out HB.out))
 (case side2 => exact HC0_1.out)
 rintro e w6 ⟨rfl, hb⟩
 refine ⟨_, rfl, ?_⟩
 have n0_ := Aside0.mk (ze (g := gb811) (o := .cells #[.int .i64 a0_0, .slice A0_1 l0_1.length c0_1] 27 (0, 0)) (sqK BK811.out) hb)
 have n1_ := Aside0.mk (zc sqB hb)
 clear BK811
 clear HB
 have BK811 := n0_
 have HB := n1_
 clear n0_ n1_
 (try clear hb)
 (try clear hb2)
 (try clear hk)
 (try clear hi)
 refine hK.out _ _ ⟨(zb BK811.out 0).trans rfl, (zb BK811.out 1).trans rfl⟩ (fun hHeld => ?_)
 clear hK K
 refine vm (a' := ?_) ?_ ?_
 rotate_left
 ·show Act.put _ (some 5) _ = _
  simp only [Act.put, List.setIfInBounds_toArray, List.set_cons_zero, List.set_cons_succ, zj, zo]
  rfl
 refine zJ (i := 3) (N := some 6) (v := ?_) (a' := ?_) #[true, true, true, true, false, false] rfl rfl (by kernel_rfl) (fun _ _ _ h => h) (Or.inl ⟨by rfl, ?_⟩) ?_ ?_
 rotate_left
 ·intro w'
  go_simp
  with_reducible rfl
 rotate_left
 ·simp only [Act.put, List.setIfInBounds_toArray, List.set_cons_zero, List.set_cons_succ, zj, zo]
  rfl
 refine yc (i := 4) (N := some 7) #[true, true, true, true, true, false] rfl rfl (by kernel_rfl) (by decide) (fun K hK => ?_)
 refine yf Try.func106 (by kernel_rfl) rfl #[.agg #[.int .i64 a0_0, .slice A0_1 l0_1.length c0_1], .int .i64 (wrap64 (t812 - 1))] (by rfl) rfl rfl sqM ?_
 with_reducible refine (z1.calls k a0_0 _ _ l0_1 (wrap64 (t812 - 1)) t813 _ ?side1 ?side2 A3.out).mono ?_
 (case side1 => exact sqC (Kd.zp HR0_1.out HB.out))
 (case side2 => exact HC0_1.out)
 rintro e w7 ⟨v814, rfl, ho0, hb⟩
 refine ⟨_, rfl, ?_⟩
 have n0_ := Aside0.mk (Kd.zD ho0 (zg sqB))
 have n1_ := Aside0.mk (ze (g := gb811) (o := .cells #[.int .i64 a0_0, .slice A0_1 l0_1.length c0_1] 27 (0, 0)) (sqK BK811.out) hb)
 have n2_ := Aside0.mk (zc sqB hb)
 clear BK811
 clear HB
 have HO815 := n0_
 have BK811 := n1_
 have HB := n2_
 clear n0_ n1_ n2_
 (try clear hb)
 (try clear hb2)
 (try clear hk)
 (try clear hi)
 (try clear ho0)
 refine hK.out _ _ ⟨(zb BK811.out 0).trans rfl, (zb BK811.out 1).trans rfl⟩ (fun hHeld => ?_)
 clear hK K
 refine vm (a' := ?_) ?_ ?_
 rotate_left
 ·show Act.put _ (some 7) _ = _
  simp only [Act.put, List.setIfInBounds_toArray, List.set_cons_zero, List.set_cons_succ, zj, zo]
  rfl
 refine zJ (i := 5) (N := some 2) (v := ?_) (a' := ?_) #[true, true, true, true, true, true] rfl rfl (by kernel_rfl) (fun _ _ _ h => h) (Or.inl ⟨by rfl, ?_⟩) ?_ ?_
 rotate_left
 ·intro w'
  go_simp
  with_reducible rfl
 rotate_left
 ·simp only [Act.put, List.setIfInBounds_toArray, List.set_cons_zero, List.set_cons_succ, zj, zo]
  rfl
 refine vu (by kernel_rfl) ?_
 try go_wp2
 go_ret
 exact ⟨_, sqE, sqR HO815.out, sqB⟩

end Go.Proofs.Yteggmbhcnhbamaa.F
end
section
namespace Go.Proofs.Yteggmbhcnhbamaa.F
open Go.RowKit Go.Proofs.YteggmbhcnhbamaaW.PrintWords Go.Proofs.YteggmbhcnhbamaaW.PrintLast Go.Proofs.YteggmbhcnhbamaaW.PrintMore
set_option linter.unusedSimpArgs false
set_option linter.unusedVariables false
def zP.q (s t : Int) : Option Bool := if t = s then some false else je.f s t
def zP.l0 : Nat → List Int → List Int → List Int → Int → Option (List Int)
  | 0, _, _, _, _ => none
  | k + 1, l, out, ss, x => if x < (ss.length : Int) then (if 0 ≤ x then ((Zv (zP.q (rd ss x)) l).bind fun b => if b = true then zP.l0 k l out ss (wrap64 (x + 1)) else (if out.length < 17592186044416 then zP.l0 k l (out ++ [rd ss x]) ss (wrap64 (x + 1)) else none)) else none) else some out
def zP.f (k : Nat) (l : List Int) : Option (List Int) := if l.length ≤ 17592186044416 then ((qI.f k l).bind fun t => if t = true then ((q6.f k l).bind fun ss => zP.l0 k l [] ss 0) else some []) else none
theorem zP.pred (s : Int) (ga : Nat) (w : World) (ha : w.heap[ga]? = some (.cells #[.int .i64 s] 3 (0, 0))) : y8 115 #[.pointer (some ⟨ga, 0, none⟩)] (zP.q s) w := by
  intro W x r hq hb
  unfold zP.q at hq
  have hc0 : W.cell? ⟨ga, 0, none⟩ = some (.int .i64 s) := (zb (ze ha hb) 0).trans rfl
  by_cases e : x = s
  · rw [if_pos e] at hq
    obtain rfl := Option.some.inj hq
    have e0 : (x != s) = false := bne_eq_false_iff_eq.mpr e
    clear ha hb hq e
    go_enter Try.func115, Try.ntmps115
    go_wp2
    go_ret
    exact ⟨rfl, by repeat (first | exact Below.refl _ _ | apply qi | apply qh)⟩
  · rw [if_neg e] at hq
    have e0 : (x != s) = true := bne_iff_ne.mpr e
    have H := Aside0.mk hq
    clear ha hb hq e
    go_enter Try.func115, Try.ntmps115
    go_wp2_with (go_at_call 99; (try simp only [zj, zo]); (with_reducible refine (je.calls s x r _ H.out).mono ?_); rintro e w' ⟨rfl, ⟨nd, rfl⟩⟩)
    go_ret
    exact ⟨rfl, by repeat (first | exact Below.refl _ _ | apply qi | apply qh)⟩
theorem zP.calls (k : Nat) (A0 : Option Addr) (c0 : Nat) (l0 : List Int) (r : List Int) (w : World) (hr0 : Kd.C (Kd.int .i64) w A0 l0.length l0) (hc0 : l0.length ≤ c0) (h : zP.f k l0 = some r) :
    Calls Try.prog 91 #[.slice A0 l0.length c0] w fun e w' => ∃ v0_ : Value, e = .returned (v0_) ∧ Kd.R (Kd.int .i64) 3 w' w.heap.size (fun _ => True) v0_ r ∧ Below w.heap.size w w' := by
  unfold zP.f at h
  by_cases hl : l0.length ≤ 17592186044416
  case neg => rw [if_neg hl] at h; exact absurd h (by simp)
  rw [if_pos hl] at h
  obtain ⟨t, ht, h⟩ := Option.bind_eq_some_iff.mp h
  have HR := Aside0.mk hr0
  have HC := Aside0.mk hc0
  have HS := Aside0.mk hl
  have HT := Aside0.mk ht
  have HB := Aside0.mk (Below.refl w.heap.size w)
  obtain ⟨yL, hyL⟩ : ∃ y_ : List Int, y_ = (([] : List Int)) := ⟨_, rfl⟩
  cases t with
  | false =>
    have hn : r = [] := by simpa using h.symm
    subst hn
    clear h hr0 hc0 hl ht
    have NyL := Aside0.mk hyL
    clear hyL
    go_enter Try.func91, Try.ntmps91
    go_wp2_with (first
      | ((with_reducible refine zi (N := 6) rfl ?_); refine Kd.jx (Kd.int .i64) _ 3 ?hg (N := 6) ?hd (xs := ([] : List Int)) (inner := []) (ok := fun _ => True) (okp := fun _ => True) ?hr ?hp (fun _ hk => hk) trivial (Below.refl _ _) (Nat.le_refl _) (by simp) ?_; (case hd => rfl); (case hg => rfl); (case hr => exact sqG); (case hp => exact (qT.none _ _)); intro vL wL hoL hb hg_ hnew_; clear hg_ hnew_; clear hoL; have n1_ := Aside0.mk (zc sqB hb); clear HB; have HB := n1_; clear n1_; clear hb)
      | ((with_reducible refine zd (f := 97) rfl ?_); refine zn (some 8) rfl rfl Try.func97 (by kernel_rfl) rfl #[.slice A0 l0.length c0] rfl (by (try simp only [List.map_toArray, List.map_cons, List.map_nil]); first | done | rfl) ?_; (with_reducible refine (qI.calls k _ _ l0 false _ ?side1 HC.out HT.out).mono ?_); (case side1 => exact sqC (Kd.zp HR.out HB.out)); rintro e w' ⟨rfl, ⟨nd, rfl⟩⟩; refine ⟨_, rfl, ?_⟩))
    go_ret
    exact ⟨_, rfl, Kd.QC _ _ _ _ _, sqB⟩
  | true =>
    have h : ((q6.f k l0).bind fun ss => zP.l0 k l0 [] ss 0) = some r := by simpa using h
    obtain ⟨ss, hss, h⟩ := Option.bind_eq_some_iff.mp h
    rw [← hyL] at h
    have NyL := Aside0.mk hyL
    have HSS := Aside0.mk hss
    have H' := Aside0.mk h
    clear h hr0 hc0 hl ht hyL hss
    go_enter Try.func91, Try.ntmps91
    go_wp2_with (first
      | ((with_reducible refine zi (N := 6) rfl ?_); refine Kd.jx (Kd.int .i64) _ 3 ?hg (N := 6) ?hd (xs := ([] : List Int)) (inner := []) (ok := fun _ => True) (okp := fun _ => True) ?hr ?hp (fun _ hk => hk) trivial (Below.refl _ _) (Nat.le_refl _) (by simp) ?_; (case hd => rfl); (case hg => rfl); (case hr => exact sqG); (case hp => exact (qT.none _ _)); intro vL wL hoL hb hg_ hnew_; clear hg_ hnew_; (first | rw [← NyL.out] at hoL | (simp only [Int.reduceToNat] at hoL; rw [← NyL.out] at hoL)); have n0_ := Aside0.mk (Kd.zD hoL (zg sqB)); have n1_ := Aside0.mk (zc sqB hb); clear HB; have HOL := n0_; have HB := n1_; clear n0_ n1_; clear hb hoL)
      | ((with_reducible refine zd (f := 97) rfl ?_); refine zn (some 8) rfl rfl Try.func97 (by kernel_rfl) rfl #[.slice A0 l0.length c0] rfl (by (try simp only [List.map_toArray, List.map_cons, List.map_nil]); first | done | rfl) ?_; (with_reducible refine (qI.calls k _ _ l0 true _ ?side1 HC.out HT.out).mono ?_); (case side1 => exact sqC (Kd.zp HR.out HB.out)); rintro e w' ⟨rfl, ⟨nd, rfl⟩⟩; refine ⟨_, rfl, ?_⟩)
      | ((with_reducible refine zd (f := 47) rfl ?_); refine zn (some 11) rfl rfl Try.func47 (by kernel_rfl) rfl #[.slice A0 l0.length c0] rfl (by (try simp only [List.map_toArray, List.map_cons, List.map_nil]); first | done | rfl) ?_; (with_reducible refine (q6.calls k _ _ l0 ss _ ?side1 HC.out HSS.out).mono ?_); (case side1 => exact sqC (Kd.zp HR.out HB.out)); rintro e w8 ⟨vS, rfl, ho0, hb⟩; refine ⟨_, rfl, ?_⟩; have n0_ := Aside0.mk (Kd.zU (sqR HOL.out) (Kd.qt ho0) hb); have n1_ := Aside0.mk (Kd.zD (Kd.qu ho0 (Kd.jd (sqR HOL.out))) (zg sqB)); have n3_ := Aside0.mk (zc sqB hb); clear HOL; clear HB; have HOL := n0_; have HOS := n1_; have HB := n3_; clear n0_ n1_ n3_; clear hb ho0; obtain ⟨Ao, co, eo⟩ := Kd.zR HOS.out; subst eo))
    go_loopg [3, 13] k (fun kq v3 v13 w' => ∃ (out : List Int) (x : Int), v13 = .int .i64 x ∧ Aside0 (zP.l0 kq l0 out ss x = some r) ∧ Aside0 (kq ≤ k) ∧ Aside0 (Kd.R (Kd.int .i64) 3 w' w.heap.size (fun k_ => some k_ ≠ ((.slice Ao ss.length co) : Value).ownBlock) v3 out) ∧ Aside0 (Kd.R (Kd.int .i64) 3 w' w.heap.size (fun k_ => some k_ ≠ (v3 : Value).ownBlock) (.slice Ao ss.length co) ss) ∧ Aside0 (Below w.heap.size w w'))
    case atStart => exact ⟨yL, 0, rfl, H', ⟨Nat.le_refl _⟩, ⟨by refine sqR ?_; exact Kd.zu HOL.out (fun _ hk => hk.2)⟩, ⟨by refine sqR ?_; exact Kd.zu HOS.out (fun _ hk => hk.2)⟩, ⟨sqB⟩⟩
    case round =>
      clear H' HOL HOS HB
      obtain ⟨out, x, rfl, HA, HK1, HO, HOS, HB⟩ := hrel
      cases gk with
      | zero => exact absurd HA.out (by simp [zP.l0])
      | succ k1 =>
        have H := HA.out
        clear HA
        simp only [zP.l0] at H
        by_cases c1 : x < (ss.length : Int)
        · rw [if_pos c1] at H
          by_cases c2 : 0 ≤ x
          · rw [if_pos c2] at H
            obtain ⟨b, hb, H⟩ := Option.bind_eq_some_iff.mp H
            have AB := Aside0.mk hb
            clear hb
            have c1b0 : decide (x < (ss.length : Int)) = true := decide_eq_true c1
            have c2b0 : decide (0 ≤ x) = true := decide_eq_true c2
            obtain ⟨ad1, e1, hx1⟩ := Kd.zT (Kd.zh HOS.out).2.2 x c2 c1
            cases e1
            replace c1 := eq_true c1
            replace c2 := eq_true c2
            obtain ⟨y, hy⟩ : ∃ y_ : Int, y_ = rd ss x := ⟨_, rfl⟩
            rw [← hy] at AB H hx1
            clear hy
            cases b with
            | true =>
              have H' := Aside0.mk (show zP.l0 k1 l0 out ss (wrap64 (x + 1)) = some r by simpa using H)
              clear H
              go_wp2_with (first
                | ((with_reducible refine zi (N := 5) rfl ?_); refine zl ?hg (N := 5) ?hd (cs := #[.int .i64 0]) (t := 3) ?hr ?_; (case hd => rfl); (case hg => rfl); (case hr => exact sqG); intro ga hg w7 hbox hb; have HG3 := Aside0.mk hg; have BKa := Aside0.mk hbox; have HBa := Aside0.mk hb; have hca : w7.cell? ⟨ga, 0, none⟩ = some (.int .i64 0) := (zb BKa.out 0).trans rfl; have hfa := za BKa.out 0; clear hg hbox hb hx1)
                | ((with_reducible refine j5 (t := 3) (p := 5) rfl ?_); refine jQ (t := 3) (p := 5) (v := ?vo_w8) (w1 := (w7.setCell ⟨ga, 0, none⟩ (.int .i64 y))) ?hg ?ho ?hn ?hr ?_; (case ho => rfl); (case hg => rfl); (case hn => rfl); (case hr => exact sqG); intro w8 hw; have hp_ := y3 (v := .int .i64 y) HG3.out BKa.out HBa.out; rw [← hw] at hp_; have BK8 := Aside0.mk hp_.1; have HB8 := Aside0.mk hp_.2; clear hp_ hw BKa HBa HG3 hca hfa; have BKa := BK8; clear BK8))
              refine (jn (zP.q y) _ _ (enters_of Try.func115 (by kernel_rfl) rfl) _ _ l0 true _ (zP.pred y _ _ BKa.out) (Kd.zp HR.out (zc HB.out HB8.out)) HC.out HS.out AB.out).mono ?_
              rintro e w9 ⟨rfl, hb⟩
              have HB9 := Aside0.mk (zc HB8.out hb)
              have n0_ := Aside0.mk (Kd.zz HO.out HB9.out)
              have n1_ := Aside0.mk (Kd.zz HOS.out HB9.out)
              have n2_ := Aside0.mk (zc HB.out HB9.out)
              clear HO HOS HB hb HB8 HB9 BKa
              have HO := n0_
              have HOS := n1_
              have HB := n2_
              clear n0_ n1_ n2_
              go_wp2
              go_roundg k1
              case measure => have := HK1.out; omega
              case rel => exact ⟨out, wrap64 (x + 1), rfl, H', ⟨by have := HK1.out; omega⟩, ⟨sqR HO.out⟩, ⟨sqR HOS.out⟩, ⟨sqB⟩⟩
            | false =>
              have H1 : (if out.length < 17592186044416 then zP.l0 k1 l0 (out ++ [y]) ss (wrap64 (x + 1)) else none) = some r := by simpa using H
              clear H
              by_cases c3 : out.length < 17592186044416
              case neg => rw [if_neg c3] at H1; exact absurd H1 (by simp)
              rw [if_pos c3] at H1
              have HLen := Aside0.mk c3
              clear c3
              obtain ⟨yA, hyA⟩ : ∃ y_ : List Int, y_ = (out ++ [y]) := ⟨_, rfl⟩
              rw [← hyA] at H1
              have NyA := Aside0.mk hyA
              have H' := Aside0.mk H1
              clear H1 hyA
              go_wp2_with (first
                | ((with_reducible refine zi (N := 5) rfl ?_); refine zl ?hg (N := 5) ?hd (cs := #[.int .i64 0]) (t := 3) ?hr ?_; (case hd => rfl); (case hg => rfl); (case hr => exact sqG); intro ga hg w7 hbox hb; have HG3 := Aside0.mk hg; have BKa := Aside0.mk hbox; have HBa := Aside0.mk hb; have hca : w7.cell? ⟨ga, 0, none⟩ = some (.int .i64 0) := (zb BKa.out 0).trans rfl; have hfa := za BKa.out 0; clear hg hbox hb hx1)
                | ((with_reducible refine j5 (t := 3) (p := 5) rfl ?_); refine jQ (t := 3) (p := 5) (v := ?vo_w8) (w1 := (w7.setCell ⟨ga, 0, none⟩ (.int .i64 y))) ?hg ?ho ?hn ?hr ?_; (case ho => rfl); (case hg => rfl); (case hn => rfl); (case hr => exact sqG); intro w8 hw; have hp_ := y3 (v := .int .i64 y) HG3.out BKa.out HBa.out; rw [← hw] at hp_; have BK8 := Aside0.mk hp_.1; have HB8 := Aside0.mk hp_.2; clear hp_ hw BKa HBa HG3 hca hfa; have BKa := BK8; clear BK8))
              refine (jn (zP.q y) _ _ (enters_of Try.func115 (by kernel_rfl) rfl) _ _ l0 false _ (zP.pred y _ _ BKa.out) (Kd.zp HR.out (zc HB.out HB8.out)) HC.out HS.out AB.out).mono ?_
              rintro e w9 ⟨rfl, hb⟩
              have hca : w9.cell? ⟨ga, 0, none⟩ = some (.int .i64 y) := (zb (ze BKa.out hb) 0).trans rfl
              have HB9 := Aside0.mk (zc HB8.out hb)
              have n0_ := Aside0.mk (Kd.zz HO.out HB9.out)
              have n1_ := Aside0.mk (Kd.zz HOS.out HB9.out)
              have n2_ := Aside0.mk (zc HB.out HB9.out)
              clear HO HOS HB hb HB8 HB9 BKa
              have HO := n0_
              have HOS := n1_
              have HB := n2_
              clear n0_ n1_ n2_
              go_wp2_with ((with_reducible refine qN (b := .append) (xs := #[.tmp 21, .tmp 23]) rfl ?_); at_builtin; refine Kd.jA (Kd.int .i64) (w0 := w) w.heap.size rfl (.tmp 21) (.tmp 23) 22 3 (.int .i64 0) 8 rfl Try.underlying22 jO rfl (by decide) (by omega) u3 out y [.int .i64 y] (fun k_ => some k_ ≠ (.slice (some ad1) ss.length co : Value).ownBlock) (fun _ => False) rfl rfl ?aP (fun _ hk => hk.elim) ?aF ?aO ?aB ?aS ?aL ?_; (case aP => exact rfl); (case aB => exact sqB); (case aF => exact (fun k_ hk => Kd.yI (Kd.jd (sqR HOS.out)) k_ hk)); (case aO => exact (sqR HO.out)); (case aS => exact (zg sqB)); (case aL => have := HLen.out; omega); intro v230 w18 ho hb hg hat; rw [← NyA.out] at ho; have n0_ := Aside0.mk (Kd.vk (ok := (fun _ => True)) (by refine sqR ?_; exact Kd.zu HOS.out (fun _ hk => ⟨trivial, hk⟩)) hg hat); have n2_ := Aside0.mk (hb); have n3_ := Aside0.mk (ho); clear HOS; clear HB; clear HO; have HOS := n0_; have HB := n2_; have HO := n3_; clear n0_ n2_ n3_; clear ho hb hg hat hca)
              go_roundg k1
              case measure => have := HK1.out; omega
              case rel => exact ⟨yA, wrap64 (x + 1), rfl, H', ⟨by have := HK1.out; omega⟩, ⟨sqR HO.out⟩, ⟨by refine sqR ?_; exact Kd.zu HOS.out (fun _ hk => hk.2)⟩, ⟨sqB⟩⟩
          · rw [if_neg c2] at H; exact absurd H (by simp)
        · rw [if_neg c1] at H
          have c1b0 : decide (x < (ss.length : Int)) = false := decide_eq_false c1
          clear c1
          obtain rfl := Option.some.inj H
          go_wp2
          go_ret
          exact ⟨_, rfl, by refine sqR ?_; exact Kd.zu HO.out (fun _ _ => trivial), sqB⟩
end Go.Proofs.Yteggmbhcnhbamaa.F
end
section
namespace Go.Proofs.Yteggmbhcnhbamaa.F
open Go.RowKit Go.Proofs.YteggmbhcnhbamaaW.PrintWords Go.Proofs.YteggmbhcnhbamaaW.PrintLast Go.Proofs.YteggmbhcnhbamaaW.PrintMore
attribute [local go_sem] qJ qM q2 q4 qy qx qL qK   -- for this text's walks alone
set_option linter.unusedVariables false
set_option linter.unusedSimpArgs false

def zS.f (k : Nat) (a0 : Int) (l1 : List Int) : Option (Int × List Int × Bool) := (zP.f k l1).bind fun t350 => ((zZ.f k a0 t350).bind fun t354 => (if t354 = true then (some (a0, t350, true)) else (some (0, ([] : List Int), false))))
theorem zS.calls (k : Nat) (a0 : Int) (A1 : Option Addr) (c1 : Nat) (l1 : List Int) (r1 : Int) (r2 : List Int) (r3 : Bool) (w : World) (hr1 : Kd.C (Kd.int .i64) w A1 l1.length l1) (hc1 : l1.length ≤ c1) (h : zS.f k a0 l1 = some (r1, r2, r3)) :
  Calls Try.prog 53 #[.int .i64 a0, .slice A1 l1.length c1] w fun e w' => ∃ v1_ : Value, e = .returned (.tuple #[.agg #[.int .i64 r1, v1_], .bool r3]) ∧ Kd.R (Kd.int .i64) 3 w' w.heap.size (fun _ => True) v1_ r2 ∧ Below w.heap.size w w' := by
 have hu27 := Try.underlying27
 have HR1 := Aside0.mk hr1
 have HC1 := Aside0.mk hc1
 clear hr1 hc1
 have HB := Aside0.mk (Below.refl w.heap.size w)
 have H : ((zP.f k l1).bind fun t350 => ((zZ.f k a0 t350).bind fun t354 => (if t354 = true then (some (a0, t350, true)) else (some (0, ([] : List Int), false))))) = some (r1, r2, r3) := h
 clear h
 replace H := Option.bind_eq_some_iff.mp H
 obtain ⟨t350, A30, H⟩ := H
 replace H : ((zZ.f k a0 t350).bind fun t354 => (if t354 = true then (some (a0, t350, true)) else (some (0, ([] : List Int), false)))) = some (r1, r2, r3) := H
 have A3 := Aside0.mk A30
 clear A30
 replace H := Option.bind_eq_some_iff.mp H
 obtain ⟨t354, A40, H⟩ := H
 replace H : (if t354 = true then (some (a0, t350, true)) else (some (0, ([] : List Int), false))) = some (r1, r2, r3) := H
 have A4 := Aside0.mk A40
 clear A40
 by_cases c5 : t354 = true
 ·subst c5
  have H1 : (some (a0, t350, true)) = some (r1, r2, r3) := by rw [if_pos rfl] at H; exact H
  clear H
  have H := H1
  clear H1
  simp only [Option.some.injEq, Prod.mk.injEq] at H
  obtain ⟨rfl, rfl, rfl⟩ := H
  go_enter Try.func53, Try.ntmps53
  go_wp2_with (first | ((with_reducible refine zi (N := 4) rfl ?_); refine zl ?hg (N := 4) ?hd (cs := #[.int .i64 0, .slice none 0 0]) (t := 27) ?hr ?_; (case hd => rfl); (case hg => rfl); (case hr => exact sqG); intro gb349 hg w6 hbox hb; have n0_ := Aside0.mk (zc sqB hb); have n1_ := Aside0.mk (hbox); have n2_ := Aside0.mk ((sqS hg : w.heap.size ≤ gb349)); have n3_ := Aside0.mk ((sqS hg : w.heap.size ≤ gb349)); clear HB; have HB := n0_; have BK349 := n1_; have GW349 := n2_; have GE349 := n3_; clear n0_ n1_ n2_ n3_; clear hb hbox hg) | ((with_reducible refine zd (f := 91) rfl ?_); refine zn (some 9) rfl rfl Try.func91 (by kernel_rfl) rfl #[.slice A1 l1.length c1] rfl sqM ?_; (with_reducible refine (zP.calls k _ _ l1 t350 _ ?side1 ?side2 A3.out).mono ?_); (case side1 => exact sqC (Kd.zp HR1.out HB.out)); (case side2 => exact HC1.out); rintro e w7 ⟨v351, rfl, ho0, hb⟩; refine ⟨_, rfl, ?_⟩; have n0_ := Aside0.mk (Kd.zD ho0 (zg sqB)); have n1_ := Aside0.mk (ze (g := gb349) (o := .cells #[.int .i64 0, .slice none 0 0] 27 (0, 0)) (sqK BK349.out) hb); have n2_ := Aside0.mk (zc sqB hb); clear BK349; clear HB; have HO352 := n0_; have BK349 := n1_; have HB := n2_; clear n0_ n1_ n2_; (try clear hb); (try clear hb2); (try clear hk); (try clear hi); (try clear ho0); obtain ⟨Ao8, co8, eo8⟩ := Kd.zR HO352.out; subst eo8) | ((with_reducible refine zi (N := 6) rfl ?_); refine zl ?hg (N := 6) ?hd (cs := #[.int .i64 0, .slice none 0 0]) (t := 27) ?hr ?_; (case hd => rfl); (case hg => rfl); (case hr => exact sqG); intro gb353 hg w9 hbox hb; have n0_ := Aside0.mk (Kd.zz (sqR HO352.out) hb); have n1_ := Aside0.mk (ze (g := gb349) (o := .cells #[.int .i64 0, .slice none 0 0] 27 (0, 0)) (sqK BK349.out) hb); have n2_ := Aside0.mk (zc sqB hb); have n3_ := Aside0.mk (hbox); have n4_ := Aside0.mk ((sqS hg : w.heap.size ≤ gb353)); have n5_ := Aside0.mk ((sqS hg : w.heap.size ≤ gb353)); have n6_ := Aside0.mk ((by rw [hg]; exact Nat.ne_of_lt (zV (g := gb349) (o := .cells #[.int .i64 0, .slice none 0 0] 27 (0, 0)) (sqK BK349.out)) : gb349 ≠ gb353)); have n7_ := Aside0.mk ((by rw [hg]; exact Nat.ne_of_gt (zV (g := gb349) (o := .cells #[.int .i64 0, .slice none 0 0] 27 (0, 0)) (sqK BK349.out)) : gb353 ≠ gb349)); clear HO352; clear BK349; clear HB; have HO352 := n0_; have BK349 := n1_; have HB := n2_; have BK353 := n3_; have GW353 := n4_; have GE353 := n5_; have NB349_353 := n6_; have NB353_349 := n7_; clear n0_ n1_ n2_ n3_ n4_ n5_ n6_ n7_; clear hb hbox hg; have hnb10 := NB353_349.out; have hnc10 := NB349_353.out; have hcz11_0 : w9.cell? ⟨gb353, 0, none⟩ = some (.int .i64 0) := (zb BK353.out 0).trans rfl; have hcz11_1 : w9.cell? ⟨gb353, 1, none⟩ = some (.slice none 0 0) := (zb BK353.out 1).trans rfl; have hfz11_0 := za BK353.out 0; have hfz11_1 := za BK353.out 1) | ((with_reducible refine zd (f := 42) rfl ?_); refine zn (some 12) rfl rfl Try.func42 (by kernel_rfl) rfl #[.agg #[.int .i64 a0, .slice Ao8 t350.length co8]] rfl sqM ?_; (with_reducible refine (zZ.calls k a0 _ _ t350 true _ ?side1 ?side2 A4.out).mono ?_); (case side1 => refine (Kd.zh (e := 3) (base := w.heap.size) (ok := fun k_ => True) (n := t350.length) (c := co8) ?_).2.2; exact (by refine sqR ?_; exact (Kd.zu (Kd.zC (p := ⟨gb353, 1, none⟩) (Kd.zC (p := ⟨gb353, 0, none⟩) (Kd.zK HO352.out BK353.out (by decide)) (fun _ hk => hk.2) (.int .i64 a0)) (fun _ hk => hk.2) (.slice Ao8 t350.length co8)) (fun _ h_ => h_.1)))); (case side2 => exact (Kd.zh HO352.out).2.1); rintro e w12 ⟨rfl, hb⟩; refine ⟨_, rfl, ?_⟩; have n0_ := Aside0.mk (Kd.zz (by refine sqR ?_; exact (Kd.zu (Kd.zC (p := ⟨gb353, 1, none⟩) (Kd.zC (p := ⟨gb353, 0, none⟩) (Kd.zK HO352.out BK353.out (by decide)) (fun _ hk => hk.2) (.int .i64 a0)) (fun _ hk => hk.2) (.slice Ao8 t350.length co8)) (fun _ h_ => h_.1))) hb); have n1_ := Aside0.mk (ze (g := gb349) (o := .cells #[.int .i64 0, .slice none 0 0] 27 (0, 0)) (by refine sqK ?_; refine qk ?_ NB349_353.out _; refine sqK ?_; refine qk ?_ NB349_353.out _; refine sqK ?_; exact BK349.out) hb); have n2_ := Aside0.mk (ze (g := gb353) (o := .cells #[.int .i64 a0, .slice Ao8 t350.length co8] 27 (0, 0)) (by refine sqK ?_; refine zB (cs := #[.int .i64 a0, .slice none 0 0]) ?_ 1 _ rfl; refine sqK ?_; refine zB (cs := #[.int .i64 0, .slice none 0 0]) ?_ 0 _ rfl; refine sqK ?_; exact BK353.out) hb); have n3_ := Aside0.mk (zc sqB hb); clear HO352; clear BK349; clear BK353; clear HB; have HO352 := n0_; have BK349 := n1_; have BK353 := n2_; have HB := n3_; clear n0_ n1_ n2_ n3_; (try clear hb); (try clear hb2); (try clear hk); (try clear hi); have hcz13_0 : w12.cell? ⟨gb353, 0, none⟩ = some (.int .i64 a0) := (zb BK353.out 0).trans rfl; have hcz13_1 : w12.cell? ⟨gb353, 1, none⟩ = some (.slice Ao8 t350.length co8) := (zb BK353.out 1).trans rfl; have hfz13_0 := za BK353.out 0; have hfz13_1 := za BK353.out 1; have hcz14_0 : w12.cell? ⟨gb349, 0, none⟩ = some (.int .i64 0) := (zb BK349.out 0).trans rfl; have hcz14_1 : w12.cell? ⟨gb349, 1, none⟩ = some (.slice none 0 0) := (zb BK349.out 1).trans rfl; have hfz14_0 := za BK349.out 0; have hfz14_1 := za BK349.out 1))
  refine bodyPost_ret (qG rfl _ _ gb349 27 #[.int .i64 a0, .slice Ao8 t350.length co8] (0, 0) _ rfl (by refine sqK ?_; refine zB (cs := #[.int .i64 a0, .slice none 0 0]) ?_ 1 _ rfl; refine sqK ?_; refine zB (cs := #[.int .i64 0, .slice none 0 0]) ?_ 0 _ rfl; refine sqK ?_; exact BK349.out) Try.underlying27 rfl (by kernel_rfl)) rfl ?_
  exact ⟨_, sqE, by refine sqR ?_; exact Kd.zu (Kd.zC (p := ⟨gb349, 1, none⟩) (Kd.zC (p := ⟨gb349, 0, none⟩) (Kd.zK HO352.out BK349.out (by decide)) (fun _ hk => hk.2) (.int .i64 a0)) (fun _ hk => hk.2) (.slice Ao8 t350.length co8)) (fun _ hk => trivial), sqB⟩
 ·replace c5 := Bool.eq_false_iff.mpr c5
  subst c5
  have H1 : (some (0, ([] : List Int), false)) = some (r1, r2, r3) := by rw [if_neg (show ¬ (false = true) by decide)] at H; exact H
  clear H
  have H := H1
  clear H1
  simp only [Option.some.injEq, Prod.mk.injEq] at H
  obtain ⟨rfl, rfl, rfl⟩ := H
  go_enter Try.func53, Try.ntmps53
  go_wp2_with (first | ((with_reducible refine zi (N := 4) rfl ?_); refine zl ?hg (N := 4) ?hd (cs := #[.int .i64 0, .slice none 0 0]) (t := 27) ?hr ?_; (case hd => rfl); (case hg => rfl); (case hr => exact sqG); intro gb349 hg w15 hbox hb; have n0_ := Aside0.mk (zc sqB hb); have n1_ := Aside0.mk (hbox); have n2_ := Aside0.mk ((sqS hg : w.heap.size ≤ gb349)); have n3_ := Aside0.mk ((sqS hg : w.heap.size ≤ gb349)); clear HB; have HB := n0_; have BK349 := n1_; have GW349 := n2_; have GE349 := n3_; clear n0_ n1_ n2_ n3_; clear hb hbox hg) | ((with_reducible refine zd (f := 91) rfl ?_); refine zn (some 9) rfl rfl Try.func91 (by kernel_rfl) rfl #[.slice A1 l1.length c1] rfl sqM ?_; (with_reducible refine (zP.calls k _ _ l1 t350 _ ?side1 ?side2 A3.out).mono ?_); (case side1 => exact sqC (Kd.zp HR1.out HB.out)); (case side2 => exact HC1.out); rintro e w16 ⟨v351, rfl, ho0, hb⟩; refine ⟨_, rfl, ?_⟩; have n0_ := Aside0.mk (Kd.zD ho0 (zg sqB)); have n1_ := Aside0.mk (ze (g := gb349) (o := .cells #[.int .i64 0, .slice none 0 0] 27 (0, 0)) (sqK BK349.out) hb); have n2_ := Aside0.mk (zc sqB hb); clear BK349; clear HB; have HO352 := n0_; have BK349 := n1_; have HB := n2_; clear n0_ n1_ n2_; (try clear hb); (try clear hb2); (try clear hk); (try clear hi); (try clear ho0); obtain ⟨Ao17, co17, eo17⟩ := Kd.zR HO352.out; subst eo17) | ((with_reducible refine zi (N := 6) rfl ?_); refine zl ?hg (N := 6) ?hd (cs := #[.int .i64 0, .slice none 0 0]) (t := 27) ?hr ?_; (case hd => rfl); (case hg => rfl); (case hr => exact sqG); intro gb353 hg w18 hbox hb; have n0_ := Aside0.mk (Kd.zz (sqR HO352.out) hb); have n1_ := Aside0.mk (ze (g := gb349) (o := .cells #[.int .i64 0, .slice none 0 0] 27 (0, 0)) (sqK BK349.out) hb); have n2_ := Aside0.mk (zc sqB hb); have n3_ := Aside0.mk (hbox); have n4_ := Aside0.mk ((sqS hg : w.heap.size ≤ gb353)); have n5_ := Aside0.mk ((sqS hg : w.heap.size ≤ gb353)); have n6_ := Aside0.mk ((by rw [hg]; exact Nat.ne_of_lt (zV (g := gb349) (o := .cells #[.int .i64 0, .slice none 0 0] 27 (0, 0)) (sqK BK349.out)) : gb349 ≠ gb353)); have n7_ := Aside0.mk ((by rw [hg]; exact Nat.ne_of_gt (zV (g := gb349) (o := .cells #[.int .i64 0, .slice none 0 0] 27 (0, 0)) (sqK BK349.out)) : gb353 ≠ gb349)); clear HO352; clear BK349; clear HB; have HO352 := n0_; have BK349 := n1_; have HB := n2_; have BK353 := n3_; have GW353 := n4_; have GE353 := n5_; have NB349_353 := n6_; have NB353_349 := n7_; clear n0_ n1_ n2_ n3_ n4_ n5_ n6_ n7_; clear hb hbox hg; have hnb19 := NB353_349.out; have hnc19 := NB349_353.out; have hcz20_0 : w18.cell? ⟨gb353, 0, none⟩ = some (.int .i64 0) := (zb BK353.out 0).trans rfl; have hcz20_1 : w18.cell? ⟨gb353, 1, none⟩ = some (.slice none 0 0) := (zb BK353.out 1).trans rfl; have hfz20_0 := za BK353.out 0; have hfz20_1 := za BK353.out 1) | ((with_reducible refine zd (f := 42) rfl ?_); refine zn (some 12) rfl rfl Try.func42 (by kernel_rfl) rfl #[.agg #[.int .i64 a0, .slice Ao17 t350.length co17]] rfl sqM ?_; (with_reducible refine (zZ.calls k a0 _ _ t350 false _ ?side1 ?side2 A4.out).mono ?_); (case side1 => refine (Kd.zh (e := 3) (base := w.heap.size) (ok := fun k_ => True) (n := t350.length) (c := co17) ?_).2.2; exact (by refine sqR ?_; exact (Kd.zu (Kd.zC (p := ⟨gb353, 1, none⟩) (Kd.zC (p := ⟨gb353, 0, none⟩) (Kd.zK HO352.out BK353.out (by decide)) (fun _ hk => hk.2) (.int .i64 a0)) (fun _ hk => hk.2) (.slice Ao17 t350.length co17)) (fun _ h_ => h_.1)))); (case side2 => exact (Kd.zh HO352.out).2.1); rintro e w21 ⟨rfl, hb⟩; refine ⟨_, rfl, ?_⟩; have n0_ := Aside0.mk (Kd.zz (by refine sqR ?_; exact (Kd.zu (Kd.zC (p := ⟨gb353, 1, none⟩) (Kd.zC (p := ⟨gb353, 0, none⟩) (Kd.zK HO352.out BK353.out (by decide)) (fun _ hk => hk.2) (.int .i64 a0)) (fun _ hk => hk.2) (.slice Ao17 t350.length co17)) (fun _ h_ => h_.1))) hb); have n1_ := Aside0.mk (ze (g := gb349) (o := .cells #[.int .i64 0, .slice none 0 0] 27 (0, 0)) (by refine sqK ?_; refine qk ?_ NB349_353.out _; refine sqK ?_; refine qk ?_ NB349_353.out _; refine sqK ?_; exact BK349.out) hb); have n2_ := Aside0.mk (ze (g := gb353) (o := .cells #[.int .i64 a0, .slice Ao17 t350.length co17] 27 (0, 0)) (by refine sqK ?_; refine zB (cs := #[.int .i64 a0, .slice none 0 0]) ?_ 1 _ rfl; refine sqK ?_; refine zB (cs := #[.int .i64 0, .slice none 0 0]) ?_ 0 _ rfl; refine sqK ?_; exact BK353.out) hb); have n3_ := Aside0.mk (zc sqB hb); clear HO352; clear BK349; clear BK353; clear HB; have HO352 := n0_; have BK349 := n1_; have BK353 := n2_; have HB := n3_; clear n0_ n1_ n2_ n3_; (try clear hb); (try clear hb2); (try clear hk); (try clear hi); have hcz22_0 : w21.cell? ⟨gb349, 0, none⟩ = some (.int .i64 0) := (zb BK349.out 0).trans rfl; have hcz22_1 : w21.cell? ⟨gb349, 1, none⟩ = some (.slice none 0 0) := (zb BK349.out 1).trans rfl; have hfz22_0 := za BK349.out 0; have hfz22_1 := za BK349.out 1))
  refine bodyPost_ret (qG rfl _ _ gb349 27 #[.int .i64 0, .slice none 0 0] (0, 0) _ rfl (by refine sqK ?_; refine zB (cs := #[.int .i64 0, .slice none 0 0]) ?_ 1 _ rfl; refine sqK ?_; refine zB (cs := #[.int .i64 0, .slice none 0 0]) ?_ 0 _ rfl; refine sqK ?_; exact BK349.out) Try.underlying27 rfl (by kernel_rfl)) rfl ?_
  exact ⟨_, sqE, sqN, sqB⟩

end Go.Proofs.Yteggmbhcnhbamaa.F
end
section
namespace Go.Proofs.Yteggmbhcnhbamaa.F
open Go.RowKit Go.Proofs.YteggmbhcnhbamaaW.PrintWords Go.Proofs.YteggmbhcnhbamaaW.PrintLast Go.Proofs.YteggmbhcnhbamaaW.PrintMore
attribute [local go_sem] qJ qM q2 q4 qy qx qL qK   -- for this text's walks alone
set_option linter.unusedVariables false
set_option linter.unusedSimpArgs false

def qm.l0 : Nat → Int → List Int → Int → Int → Option (Bool)
 | 0, _, _, _, _ => none
 | k + 1, x1, x8, x9, x10 => if x10 < x9 then (if 0 ≤ x10 then (if x10 < (x8.length : Int) then ((je.f x1 (rd x8 x10)).bind fun t236 => (if t236 = true then (some true) else (qm.l0 k x1 x8 x9 (wrap64 (x10 + 1))))) else (none)) else (none)) else (some false)
def qm.f (k : Nat) (a0_0 : Int) (l0_1 : List Int) (a1 : Int) : Option (Bool) := qm.l0 k a1 l0_1 (l0_1.length : Int) 0
theorem qm.calls (k : Nat) (a0_0 : Int) (A0_1 : Option Addr) (c0_1 : Nat) (l0_1 : List Int) (a1 : Int) (r : Bool) (w : World) (hr0_1 : Kd.C (Kd.int .i64) w A0_1 l0_1.length l0_1) (hc0_1 : l0_1.length ≤ c0_1) (h : qm.f k a0_0 l0_1 a1 = some r) :
  Calls Try.prog 79 #[.agg #[.int .i64 a0_0, .slice A0_1 l0_1.length c0_1], .int .i64 a1] w fun e w' => e = .returned (.bool r) ∧ Below w.heap.size w w' := by
 have hu27 := Try.underlying27
 have HR0_1 := Aside0.mk hr0_1
 have HC0_1 := Aside0.mk hc0_1
 clear hr0_1 hc0_1
 have HB := Aside0.mk (Below.refl w.heap.size w)
 have H : (qm.l0 k a1 l0_1 (l0_1.length : Int) 0) = some r := h
 clear h
 have H' := Aside0.mk H
 clear H
 go_enter Try.func79, Try.ntmps79
 go_wp2_with (first | ((with_reducible refine zi (N := 2) rfl ?_); refine zl ?hg (N := 2) ?hd (cs := #[.int .i64 a0_0, .slice A0_1 l0_1.length c0_1]) (t := 27) ?hr ?_; (case hd => rfl); (case hg => rfl); (case hr => exact sqG); intro gb234 hg w3 hbox hb; have n0_ := Aside0.mk (zc sqB hb); have n1_ := Aside0.mk (hbox); have n2_ := Aside0.mk ((sqS hg : w.heap.size ≤ gb234)); have n3_ := Aside0.mk ((sqS hg : w.heap.size ≤ gb234)); clear HB; have HB := n0_; have BK234 := n1_; have GW234 := n2_; have GE234 := n3_; clear n0_ n1_ n2_ n3_; clear hb hbox hg; have hcz4_0 : w3.cell? ⟨gb234, 0, none⟩ = some (.int .i64 a0_0) := (zb BK234.out 0).trans rfl; have hcz4_1 : w3.cell? ⟨gb234, 1, none⟩ = some (.slice A0_1 l0_1.length c0_1) := (zb BK234.out 1).trans rfl; have hfz4_0 := za BK234.out 0; have hfz4_1 := za BK234.out 1))
 go_loopg [10] k (fun kq v10 w' => ∃ (x10_1 : Int), v10 = .int .i64 x10_1 ∧ Aside0 (qm.l0 kq a1 l0_1 (l0_1.length : Int) x10_1 = some r) ∧ Aside0 (kq ≤ k) ∧ Aside0 (w'.heap[gb234]? = some (.cells #[.int .i64 a0_0, (.slice A0_1 l0_1.length c0_1)] 27 (0, 0))) ∧ Aside0 (Below w.heap.size w w'))
 case atStart => exact ⟨(0), (sqD), H', ⟨Nat.le_refl _⟩, ⟨sqK BK234.out⟩, ⟨sqB⟩⟩
 case round =>
  clear H'
  try clear p2
  try clear hcz4_0
  try clear hcz4_1
  try clear hfz4_0
  try clear hfz4_1
  obtain ⟨x10_1, rfl, HA, HK1, BK234, HB⟩ := hrel
  cases gk with
  | zero => exact absurd HA.out (by simp [qm.l0])
  | succ k1 =>
   have H := HA.out
   clear HA
   simp only [qm.l0] at H
   by_cases c5 : x10_1 < (l0_1.length : Int)
   ·rw [if_pos c5] at H
    have c5b0 : decide (x10_1 < (l0_1.length : Int)) = true := decide_eq_true c5
    clear c5
    by_cases c6 : 0 ≤ x10_1
    ·rw [if_pos c6] at H
     have c6b0 : decide (0 ≤ x10_1) = true := decide_eq_true c6
     clear c6
     by_cases c7 : x10_1 < (l0_1.length : Int)
     ·rw [if_pos c7] at H
      have c7b0 : decide (x10_1 < (l0_1.length : Int)) = true := decide_eq_true c7
      clear c7
      replace H := Option.bind_eq_some_iff.mp H
      obtain ⟨t236, A80, H⟩ := H
      replace H : (if t236 = true then (some true) else (qm.l0 k1 a1 l0_1 (l0_1.length : Int) (wrap64 (x10_1 + 1)))) = some r := H
      have A8 := Aside0.mk A80
      clear A80
      by_cases c9 : t236 = true
      ·subst c9
       have H1 : (some true) = some r := by rw [if_pos rfl] at H; exact H
       clear H
       have H := H1
       clear H1
       obtain rfl := Option.some.inj H
       have p235 : 0 ≤ (x10_1 : Int) := of_decide_eq_true sqA
       have q235 : x10_1 < (l0_1.length : Int) := of_decide_eq_true sqA
       obtain ⟨ad235, e235, hx235_0⟩ := Kd.zT HR0_1.out x10_1 p235 q235
       cases e235
       replace hx235_0 := (HB.out.cell (World.block_lt_of_cell? w _ hx235_0)).trans hx235_0
       replace p235 := eq_true p235
       replace q235 := eq_true q235
       go_wp2_with (first | ((with_reducible refine zd (f := 99) rfl ?_); refine zn (some 16) rfl rfl Try.func99 (by kernel_rfl) rfl #[.int .i64 a1, .int .i64 (rd l0_1 x10_1)] rfl sqM ?_; (with_reducible refine (je.calls a1 (rd l0_1 x10_1) true _ A8.out).mono ?_); rintro e w' ⟨rfl, ⟨nd, rfl⟩⟩; refine ⟨_, rfl, ?_⟩))
       go_ret
       exact ⟨sqE, sqB⟩
      ·replace c9 := Bool.eq_false_iff.mpr c9
       subst c9
       have H1 : (qm.l0 k1 a1 l0_1 (l0_1.length : Int) (wrap64 (x10_1 + 1))) = some r := by rw [if_neg (show ¬ (false = true) by decide)] at H; exact H
       clear H
       have H := H1
       clear H1
       have H' := Aside0.mk H
       clear H
       have p235 : 0 ≤ (x10_1 : Int) := of_decide_eq_true sqA
       have q235 : x10_1 < (l0_1.length : Int) := of_decide_eq_true sqA
       obtain ⟨ad235, e235, hx235_0⟩ := Kd.zT HR0_1.out x10_1 p235 q235
       cases e235
       replace hx235_0 := (HB.out.cell (World.block_lt_of_cell? w _ hx235_0)).trans hx235_0
       replace p235 := eq_true p235
       replace q235 := eq_true q235
       go_wp2_with (first | ((with_reducible refine zd (f := 99) rfl ?_); refine zn (some 16) rfl rfl Try.func99 (by kernel_rfl) rfl #[.int .i64 a1, .int .i64 (rd l0_1 x10_1)] rfl sqM ?_; (with_reducible refine (je.calls a1 (rd l0_1 x10_1) false _ A8.out).mono ?_); rintro e w' ⟨rfl, ⟨nd, rfl⟩⟩; refine ⟨_, rfl, ?_⟩))
       go_roundg k1
       case measure => have := HK1.out; omega
       case rel => exact ⟨(wrap64 (x10_1 + 1)), (sqD), H', ⟨by have := HK1.out; omega⟩, ⟨sqK BK234.out⟩, ⟨sqB⟩⟩
     ·rw [if_neg c7] at H
      exact absurd H (by simp)
    ·rw [if_neg c6] at H
     exact absurd H (by simp)
   ·rw [if_neg c5] at H
    have c5b0 : decide (x10_1 < (l0_1.length : Int)) = false := decide_eq_false c5
    clear c5
    obtain rfl := Option.some.inj H
    go_wp2
    go_ret
    exact ⟨sqE, sqB⟩

end Go.Proofs.Yteggmbhcnhbamaa.F
end
section
namespace Go.Proofs.Yteggmbhcnhbamaa.F
open Go.RowKit Go.Proofs.YteggmbhcnhbamaaW.PrintWords Go.Proofs.YteggmbhcnhbamaaW.PrintLast Go.Proofs.YteggmbhcnhbamaaW.PrintMore
set_option linter.unusedSimpArgs false
set_option linter.unusedVariables false
def zO.q (s t : Int) : Option Bool := if t = s then some false else je.f t s
def zO.l0 : Nat → List Int → List Int → List Int → Int → Option (List Int)
  | 0, _, _, _, _ => none
  | k + 1, l, out, ss, x => if x < (ss.length : Int) then (if 0 ≤ x then ((Zv (zO.q (rd ss x)) l).bind fun b => if b = true then zO.l0 k l out ss (wrap64 (x + 1)) else (if out.length < 17592186044416 then zO.l0 k l (out ++ [rd ss x]) ss (wrap64 (x + 1)) else none)) else none) else some out
def zO.f (k : Nat) (l : List Int) : Option (List Int) := if l.length ≤ 17592186044416 then ((qI.f k l).bind fun t => if t = true then ((q6.f k l).bind fun ss => zO.l0 k l [] ss 0) else some []) else none
theorem zO.pred (s : Int) (ga : Nat) (w : World) (ha : w.heap[ga]? = some (.cells #[.int .i64 s] 3 (0, 0))) : y8 98 #[.pointer (some ⟨ga, 0, none⟩)] (zO.q s) w := by
  intro W x r hq hb
  unfold zO.q at hq
  have hc0 : W.cell? ⟨ga, 0, none⟩ = some (.int .i64 s) := (zb (ze ha hb) 0).trans rfl
  by_cases e : x = s
  · rw [if_pos e] at hq
    obtain rfl := Option.some.inj hq
    have e0 : (x != s) = false := bne_eq_false_iff_eq.mpr e
    clear ha hb hq e
    go_enter Try.func98, Try.ntmps98
    go_wp2
    go_ret
    exact ⟨rfl, by repeat (first | exact Below.refl _ _ | apply qi | apply qh)⟩
  · rw [if_neg e] at hq
    have e0 : (x != s) = true := bne_iff_ne.mpr e
    have H := Aside0.mk hq
    clear ha hb hq e
    go_enter Try.func98, Try.ntmps98
    go_wp2_with (go_at_call 99; (try simp only [zj, zo]); (with_reducible refine (je.calls x s r _ H.out).mono ?_); rintro e w' ⟨rfl, ⟨nd, rfl⟩⟩)
    go_ret
    exact ⟨rfl, by repeat (first | exact Below.refl _ _ | apply qi | apply qh)⟩
theorem zO.calls (k : Nat) (A0 : Option Addr) (c0 : Nat) (l0 : List Int) (r : List Int) (w : World) (hr0 : Kd.C (Kd.int .i64) w A0 l0.length l0) (hc0 : l0.length ≤ c0) (h : zO.f k l0 = some r) :
    Calls Try.prog 66 #[.slice A0 l0.length c0] w fun e w' => ∃ v0_ : Value, e = .returned (v0_) ∧ Kd.R (Kd.int .i64) 3 w' w.heap.size (fun _ => True) v0_ r ∧ Below w.heap.size w w' := by
  unfold zO.f at h
  by_cases hl : l0.length ≤ 17592186044416
  case neg => rw [if_neg hl] at h; exact absurd h (by simp)
  rw [if_pos hl] at h
  obtain ⟨t, ht, h⟩ := Option.bind_eq_some_iff.mp h
  have HR := Aside0.mk hr0
  have HC := Aside0.mk hc0
  have HS := Aside0.mk hl
  have HT := Aside0.mk ht
  have HB := Aside0.mk (Below.refl w.heap.size w)
  obtain ⟨yL, hyL⟩ : ∃ y_ : List Int, y_ = (([] : List Int)) := ⟨_, rfl⟩
  cases t with
  | false =>
    have hn : r = [] := by simpa using h.symm
    subst hn
    clear h hr0 hc0 hl ht
    have NyL := Aside0.mk hyL
    clear hyL
    go_enter Try.func66, Try.ntmps66
    go_wp2_with (first
      | ((with_reducible refine zi (N := 6) rfl ?_); refine Kd.jx (Kd.int .i64) _ 3 ?hg (N := 6) ?hd (xs := ([] : List Int)) (inner := []) (ok := fun _ => True) (okp := fun _ => True) ?hr ?hp (fun _ hk => hk) trivial (Below.refl _ _) (Nat.le_refl _) (by simp) ?_; (case hd => rfl); (case hg => rfl); (case hr => exact sqG); (case hp => exact (qT.none _ _)); intro vL wL hoL hb hg_ hnew_; clear hg_ hnew_; clear hoL; have n1_ := Aside0.mk (zc sqB hb); clear HB; have HB := n1_; clear n1_; clear hb)
      | ((with_reducible refine zd (f := 97) rfl ?_); refine zn (some 8) rfl rfl Try.func97 (by kernel_rfl) rfl #[.slice A0 l0.length c0] rfl (by (try simp only [List.map_toArray, List.map_cons, List.map_nil]); first | done | rfl) ?_; (with_reducible refine (qI.calls k _ _ l0 false _ ?side1 HC.out HT.out).mono ?_); (case side1 => exact sqC (Kd.zp HR.out HB.out)); rintro e w' ⟨rfl, ⟨nd, rfl⟩⟩; refine ⟨_, rfl, ?_⟩))
    go_ret
    exact ⟨_, rfl, Kd.QC _ _ _ _ _, sqB⟩
  | true =>
    have h : ((q6.f k l0).bind fun ss => zO.l0 k l0 [] ss 0) = some r := by simpa using h
    obtain ⟨ss, hss, h⟩ := Option.bind_eq_some_iff.mp h
    rw [← hyL] at h
    have NyL := Aside0.mk hyL
    have HSS := Aside0.mk hss
    have H' := Aside0.mk h
    clear h hr0 hc0 hl ht hyL hss
    go_enter Try.func66, Try.ntmps66
    go_wp2_with (first
      | ((with_reducible refine zi (N := 6) rfl ?_); refine Kd.jx (Kd.int .i64) _ 3 ?hg (N := 6) ?hd (xs := ([] : List Int)) (inner := []) (ok := fun _ => True) (okp := fun _ => True) ?hr ?hp (fun _ hk => hk) trivial (Below.refl _ _) (Nat.le_refl _) (by simp) ?_; (case hd => rfl); (case hg => rfl); (case hr => exact sqG); (case hp => exact (qT.none _ _)); intro vL wL hoL hb hg_ hnew_; clear hg_ hnew_; (first | rw [← NyL.out] at hoL | (simp only [Int.reduceToNat] at hoL; rw [← NyL.out] at hoL)); have n0_ := Aside0.mk (Kd.zD hoL (zg sqB)); have n1_ := Aside0.mk (zc sqB hb); clear HB; have HOL := n0_; have HB := n1_; clear n0_ n1_; clear hb hoL)
      | ((with_reducible refine zd (f := 97) rfl ?_); refine zn (some 8) rfl rfl Try.func97 (by kernel_rfl) rfl #[.slice A0 l0.length c0] rfl (by (try simp only [List.map_toArray, List.map_cons, List.map_nil]); first | done | rfl) ?_; (with_reducible refine (qI.calls k _ _ l0 true _ ?side1 HC.out HT.out).mono ?_); (case side1 => exact sqC (Kd.zp HR.out HB.out)); rintro e w' ⟨rfl, ⟨nd, rfl⟩⟩; refine ⟨_, rfl, ?_⟩)
      | ((with_reducible refine zd (f := 47) rfl ?_); refine zn (some 11) rfl rfl Try.func47 (by kernel_rfl) rfl #[.slice A0 l0.length c0] rfl (by (try simp only [List.map_toArray, List.map_cons, List.map_nil]); first | done | rfl) ?_; (with_reducible refine (q6.calls k _ _ l0 ss _ ?side1 HC.out HSS.out).mono ?_); (case side1 => exact sqC (Kd.zp HR.out HB.out)); rintro e w8 ⟨vS, rfl, ho0, hb⟩; refine ⟨_, rfl, ?_⟩; have n0_ := Aside0.mk (Kd.zU (sqR HOL.out) (Kd.qt ho0) hb); have n1_ := Aside0.mk (Kd.zD (Kd.qu ho0 (Kd.jd (sqR HOL.out))) (zg sqB)); have n3_ := Aside0.mk (zc sqB hb); clear HOL; clear HB; have HOL := n0_; have HOS := n1_; have HB := n3_; clear n0_ n1_ n3_; clear hb ho0; obtain ⟨Ao, co, eo⟩ := Kd.zR HOS.out; subst eo))
    go_loopg [3, 13] k (fun kq v3 v13 w' => ∃ (out : List Int) (x : Int), v13 = .int .i64 x ∧ Aside0 (zO.l0 kq l0 out ss x = some r) ∧ Aside0 (kq ≤ k) ∧ Aside0 (Kd.R (Kd.int .i64) 3 w' w.heap.size (fun k_ => some k_ ≠ ((.slice Ao ss.length co) : Value).ownBlock) v3 out) ∧ Aside0 (Kd.R (Kd.int .i64) 3 w' w.heap.size (fun k_ => some k_ ≠ (v3 : Value).ownBlock) (.slice Ao ss.length co) ss) ∧ Aside0 (Below w.heap.size w w'))
    case atStart => exact ⟨yL, 0, rfl, H', ⟨Nat.le_refl _⟩, ⟨by refine sqR ?_; exact Kd.zu HOL.out (fun _ hk => hk.2)⟩, ⟨by refine sqR ?_; exact Kd.zu HOS.out (fun _ hk => hk.2)⟩, ⟨sqB⟩⟩
    case round =>
      clear H' HOL HOS HB
      obtain ⟨out, x, rfl, HA, HK1, HO, HOS, HB⟩ := hrel
      cases gk with
      | zero => exact absurd HA.out (by simp [zO.l0])
      | succ k1 =>
        have H := HA.out
        clear HA
        simp only [zO.l0] at H
        by_cases c1 : x < (ss.length : Int)
        · rw [if_pos c1] at H
          by_cases c2 : 0 ≤ x
          · rw [if_pos c2] at H
            obtain ⟨b, hb, H⟩ := Option.bind_eq_some_iff.mp H
            have AB := Aside0.mk hb
            clear hb
            have c1b0 : decide (x < (ss.length : Int)) = true := decide_eq_true c1
            have c2b0 : decide (0 ≤ x) = true := decide_eq_true c2
            obtain ⟨ad1, e1, hx1⟩ := Kd.zT (Kd.zh HOS.out).2.2 x c2 c1
            cases e1
            replace c1 := eq_true c1
            replace c2 := eq_true c2
            obtain ⟨y, hy⟩ : ∃ y_ : Int, y_ = rd ss x := ⟨_, rfl⟩
            rw [← hy] at AB H hx1
            clear hy
            cases b with
            | true =>
              have H' := Aside0.mk (show zO.l0 k1 l0 out ss (wrap64 (x + 1)) = some r by simpa using H)
              clear H
              go_wp2_with (first
                | ((with_reducible refine zi (N := 5) rfl ?_); refine zl ?hg (N := 5) ?hd (cs := #[.int .i64 0]) (t := 3) ?hr ?_; (case hd => rfl); (case hg => rfl); (case hr => exact sqG); intro ga hg w7 hbox hb; have HG3 := Aside0.mk hg; have BKa := Aside0.mk hbox; have HBa := Aside0.mk hb; have hca : w7.cell? ⟨ga, 0, none⟩ = some (.int .i64 0) := (zb BKa.out 0).trans rfl; have hfa := za BKa.out 0; clear hg hbox hb hx1)
                | ((with_reducible refine j5 (t := 3) (p := 5) rfl ?_); refine jQ (t := 3) (p := 5) (v := ?vo_w8) (w1 := (w7.setCell ⟨ga, 0, none⟩ (.int .i64 y))) ?hg ?ho ?hn ?hr ?_; (case ho => rfl); (case hg => rfl); (case hn => rfl); (case hr => exact sqG); intro w8 hw; have hp_ := y3 (v := .int .i64 y) HG3.out BKa.out HBa.out; rw [← hw] at hp_; have BK8 := Aside0.mk hp_.1; have HB8 := Aside0.mk hp_.2; clear hp_ hw BKa HBa HG3 hca hfa; have BKa := BK8; clear BK8))
              refine (jn (zO.q y) _ _ (enters_of Try.func98 (by kernel_rfl) rfl) _ _ l0 true _ (zO.pred y _ _ BKa.out) (Kd.zp HR.out (zc HB.out HB8.out)) HC.out HS.out AB.out).mono ?_
              rintro e w9 ⟨rfl, hb⟩
              have HB9 := Aside0.mk (zc HB8.out hb)
              have n0_ := Aside0.mk (Kd.zz HO.out HB9.out)
              have n1_ := Aside0.mk (Kd.zz HOS.out HB9.out)
              have n2_ := Aside0.mk (zc HB.out HB9.out)
              clear HO HOS HB hb HB8 HB9 BKa
              have HO := n0_
              have HOS := n1_
              have HB := n2_
              clear n0_ n1_ n2_
              go_wp2
              go_roundg k1
              case measure => have := HK1.out; omega
              case rel => exact ⟨out, wrap64 (x + 1), rfl, H', ⟨by have := HK1.out; omega⟩, ⟨sqR HO.out⟩, ⟨sqR HOS.out⟩, ⟨sqB⟩⟩
            | false =>
              have H1 : (if out.length < 17592186044416 then zO.l0 k1 l0 (out ++ [y]) ss (wrap64 (x + 1)) else none) = some r := by simpa using H
              clear H
              by_cases c3 : out.length < 17592186044416
              case neg => rw [if_neg c3] at H1; exact absurd H1 (by simp)
              rw [if_pos c3] at H1
              have HLen := Aside0.mk c3
              clear c3
              obtain ⟨yA, hyA⟩ : ∃ y_ : List Int, y_ = (out ++ [y]) := ⟨_, rfl⟩
              rw [← hyA] at H1
              have NyA := Aside0.mk hyA
              have H' := Aside0.mk H1
              clear H1 hyA
              go_wp2_with (first
                | ((with_reducible refine zi (N := 5) rfl ?_); refine zl ?hg (N := 5) ?hd (cs := #[.int .i64 0]) (t := 3) ?hr ?_; (case hd => rfl); (case hg => rfl); (case hr => exact sqG); intro ga hg w7 hbox hb; have HG3 := Aside0.mk hg; have BKa := Aside0.mk hbox; have HBa := Aside0.mk hb; have hca : w7.cell? ⟨ga, 0, none⟩ = some (.int .i64 0) := (zb BKa.out 0).trans rfl; have hfa := za BKa.out 0; clear hg hbox hb hx1)
                | ((with_reducible refine j5 (t := 3) (p := 5) rfl ?_); refine jQ (t := 3) (p := 5) (v := ?vo_w8) (w1 := (w7.setCell ⟨ga, 0, none⟩ (.int .i64 y))) ?hg ?ho ?hn ?hr ?_; (case ho => rfl); (case hg => rfl); (case hn => rfl); (case hr => exact sqG); intro w8 hw; have hp_ := y3 (v := .int .i64 y) HG3.out BKa.out HBa.out; rw [← hw] at hp_; have BK8 := Aside0.mk hp_.1; have HB8 := Aside0.mk hp_.2; clear hp_ hw BKa HBa HG3 hca hfa; have BKa := BK8; clear BK8))
              refine (jn (zO.q y) _ _ (enters_of Try.func98 (by kernel_rfl) rfl) _ _ l0 false _ (zO.pred y _ _ BKa.out) (Kd.zp HR.out (zc HB.out HB8.out)) HC.out HS.out AB.out).mono ?_
              rintro e w9 ⟨rfl, hb⟩
              have hca : w9.cell? ⟨ga, 0, none⟩ = some (.int .i64 y) := (zb (ze BKa.out hb) 0).trans rfl
              have HB9 := Aside0.mk (zc HB8.out hb)
              have n0_ := Aside0.mk (Kd.zz HO.out HB9.out)
              have n1_ := Aside0.mk (Kd.zz HOS.out HB9.out)
              have n2_ := Aside0.mk (zc HB.out HB9.out)
              clear HO HOS HB hb HB8 HB9 BKa
              have HO := n0_
              have HOS := n1_
              have HB := n2_
              clear n0_ n1_ n2_
              go_wp2_with ((with_reducible refine qN (b := .append) (xs := #[.tmp 21, .tmp 23]) rfl ?_); at_builtin; refine Kd.jA (Kd.int .i64) (w0 := w) w.heap.size rfl (.tmp 21) (.tmp 23) 22 3 (.int .i64 0) 8 rfl Try.underlying22 jO rfl (by decide) (by omega) u3 out y [.int .i64 y] (fun k_ => some k_ ≠ (.slice (some ad1) ss.length co : Value).ownBlock) (fun _ => False) rfl rfl ?aP (fun _ hk => hk.elim) ?aF ?aO ?aB ?aS ?aL ?_; (case aP => exact rfl); (case aB => exact sqB); (case aF => exact (fun k_ hk => Kd.yI (Kd.jd (sqR HOS.out)) k_ hk)); (case aO => exact (sqR HO.out)); (case aS => exact (zg sqB)); (case aL => have := HLen.out; omega); intro v230 w18 ho hb hg hat; rw [← NyA.out] at ho; have n0_ := Aside0.mk (Kd.vk (ok := (fun _ => True)) (by refine sqR ?_; exact Kd.zu HOS.out (fun _ hk => ⟨trivial, hk⟩)) hg hat); have n2_ := Aside0.mk (hb); have n3_ := Aside0.mk (ho); clear HOS; clear HB; clear HO; have HOS := n0_; have HB := n2_; have HO := n3_; clear n0_ n2_ n3_; clear ho hb hg hat hca)
              go_roundg k1
              case measure => have := HK1.out; omega
              case rel => exact ⟨yA, wrap64 (x + 1), rfl, H', ⟨by have := HK1.out; omega⟩, ⟨sqR HO.out⟩, ⟨by refine sqR ?_; exact Kd.zu HOS.out (fun _ hk => hk.2)⟩, ⟨sqB⟩⟩
          · rw [if_neg c2] at H; exact absurd H (by simp)
        · rw [if_neg c1] at H
          have c1b0 : decide (x < (ss.length : Int)) = false := decide_eq_false c1
          clear c1
          obtain rfl := Option.some.inj H
          go_wp2
          go_ret
          exact ⟨_, rfl, by refine sqR ?_; exact Kd.zu HO.out (fun _ _ => trivial), sqB⟩
end Go.Proofs.Yteggmbhcnhbamaa.F
end
section
namespace Go.Proofs.Yteggmbhcnhbamaa.F
open Go.RowKit Go.Proofs.YteggmbhcnhbamaaW.PrintWords Go.Proofs.YteggmbhcnhbamaaW.PrintLast Go.Proofs.YteggmbhcnhbamaaW.PrintMore
set_option linter.unusedSimpArgs false
set_option linter.unusedVariables false
def qc.q (k : Nat) (n : Int) (l : List Int) (s : Int) : Option Bool := (qm.f k n l s).bind fun t => some (!t)
def qc.f (k : Nat) (a0_0 : Int) (l0_1 : List Int) : Option (List Int) := (zZ.f k a0_0 l0_1).bind fun t => if t = true then ((vE (qc.q k a0_0 l0_1) k a0_0 [] 0).bind fun L => zO.f k L) else some []
theorem qc.pred (k : Nat) (l : List Int) (n : Int) (A : Option Addr) (c gm : Nat) (w : World) (hm : w.heap[gm]? = some (.cells #[.int .i64 n, .slice A l.length c] 27 (0, 0)))
    (hr : Kd.C (Kd.int .i64) w A l.length l) (hc : l.length ≤ c) : y8 78 #[.pointer (some ⟨gm, 0, none⟩)] (qc.q k n l) w := by
  intro W x r hq hb
  unfold qc.q at hq
  have hc0 : W.cell? ⟨gm, 0, none⟩ = some (.int .i64 n) := (zb (ze hm hb) 0).trans rfl
  have hc1 : W.cell? ⟨gm, 1, none⟩ = some (.slice A l.length c) := (zb (ze hm hb) 1).trans rfl
  have HR := Aside0.mk (Kd.zp hr hb)
  have HC := Aside0.mk hc
  have hu := Try.underlying27
  obtain ⟨t, ht, hq⟩ := Option.bind_eq_some_iff.mp hq
  obtain rfl := Option.some.inj hq
  have H := Aside0.mk ht
  clear hq ht hm hr hc hb
  go_enter Try.func78, Try.ntmps78
  go_wp2_with (go_at_call 79; (try simp only [zj, zo]); (with_reducible refine (qm.calls k n _ _ l x t _ HR.out HC.out H.out).mono ?_); rintro e w' ⟨rfl, hb⟩)
  go_ret
  exact ⟨by first | rfl | simp, by first | exact hb | (obtain ⟨nd, rfl⟩ := hb; exact qh (Below.refl _ _) nd)⟩
theorem qc.calls (k : Nat) (a0_0 : Int) (A0_1 : Option Addr) (c0_1 : Nat) (l0_1 : List Int) (r : List Int) (w : World) (hr0_1 : Kd.C (Kd.int .i64) w A0_1 l0_1.length l0_1) (hc0_1 : l0_1.length ≤ c0_1) (h : qc.f k a0_0 l0_1 = some r) :
    Calls Try.prog 43 #[.agg #[.int .i64 a0_0, .slice A0_1 l0_1.length c0_1]] w fun e w' => ∃ v0_ : Value, e = .returned (v0_) ∧ Kd.R (Kd.int .i64) 3 w' w.heap.size (fun _ => True) v0_ r ∧ Below w.heap.size w w' := by
  have hum := Try.underlying27
  unfold qc.f at h
  obtain ⟨t, ht, h⟩ := Option.bind_eq_some_iff.mp h
  have HR := Aside0.mk hr0_1
  have HC := Aside0.mk hc0_1
  have HT := Aside0.mk ht
  have H := Aside0.mk h
  clear hr0_1 hc0_1 h ht
  cases t with
  | false =>
    have hn : r = [] := by have := H.out; simpa using this.symm
    subst hn
    clear H
    go_enter Try.func43, Try.ntmps43
    go_wp2_with (first
      | ((with_reducible refine zi (N := 1) rfl ?_); refine zl ?hg (N := 1) ?hd (cs := #[.int .i64 a0_0, .slice A0_1 l0_1.length c0_1]) (t := 27) ?hr ?_; (case hd => rfl); (case hg => rfl); (case hr => exact sqG); intro gm hg w4 hbox hb; have HB1 := Aside0.mk hb; have BKm := Aside0.mk hbox; have hcz0 : w4.cell? ⟨gm, 0, none⟩ = some (.int .i64 a0_0) := (zb BKm.out 0).trans rfl; have hcz1 : w4.cell? ⟨gm, 1, none⟩ = some (.slice A0_1 l0_1.length c0_1) := (zb BKm.out 1).trans rfl; clear hb hbox hg)
      | (go_at_call 42; (try simp only [zj, zo]); (with_reducible refine (zZ.calls k a0_0 _ _ l0_1 false _ (Kd.zp HR.out HB1.out) HC.out HT.out).mono ?_); rintro e w' ⟨rfl, hb⟩; have HB2 := Aside0.mk (zc HB1.out hb); clear hb hcz0 hcz1 HB1))
    go_ret
    exact ⟨_, rfl, Kd.QC _ _ _ _ _, HB2.out⟩
  | true =>
    have H1 : ((vE (qc.q k a0_0 l0_1) k a0_0 [] 0).bind fun L => zO.f k L) = some r := by have := H.out; simpa using this
    obtain ⟨L, hL, hM⟩ := Option.bind_eq_some_iff.mp H1
    have H' := Aside0.mk hL
    have HM := Aside0.mk hM
    clear H1 hL hM
    clear H
    go_enter Try.func43, Try.ntmps43
    go_wp2_with (first
      | ((with_reducible refine zi (N := 1) rfl ?_); refine zl ?hg (N := 1) ?hd (cs := #[.int .i64 a0_0, .slice A0_1 l0_1.length c0_1]) (t := 27) ?hr ?_; (case hd => rfl); (case hg => rfl); (case hr => exact sqG); intro gm hg w4 hbox hb; have HB1 := Aside0.mk hb; have BKm := Aside0.mk hbox; have hcz0 : w4.cell? ⟨gm, 0, none⟩ = some (.int .i64 a0_0) := (zb BKm.out 0).trans rfl; have hcz1 : w4.cell? ⟨gm, 1, none⟩ = some (.slice A0_1 l0_1.length c0_1) := (zb BKm.out 1).trans rfl; clear hb hbox hg)
      | (go_at_call 42; (try simp only [zj, zo]); (with_reducible refine (zZ.calls k a0_0 _ _ l0_1 true _ (Kd.zp HR.out HB1.out) HC.out HT.out).mono ?_); rintro e w5 ⟨rfl, hb⟩; have HB2 := Aside0.mk (zc HB1.out hb); have BK2 := Aside0.mk (ze BKm.out hb); clear hb hcz0 hcz1 HB1 BKm; have hcz0 : w5.cell? ⟨gm, 0, none⟩ = some (.int .i64 a0_0) := (zb BK2.out 0).trans rfl; have hcz1 : w5.cell? ⟨gm, 1, none⟩ = some (.slice A0_1 l0_1.length c0_1) := (zb BK2.out 1).trans rfl))
    refine (vr (qc.q k a0_0 l0_1) _ _ (enters_of Try.func78 (by kernel_rfl) rfl) k a0_0 L _ (qc.pred k l0_1 a0_0 _ c0_1 gm _ BK2.out (Kd.zp HR.out HB2.out) HC.out) H'.out).mono ?_
    rintro e w9 ⟨v, rfl, ho, hb⟩
    obtain ⟨Ao, co, eo⟩ := Kd.zR ho
    subst eo
    have HO := Aside0.mk ho
    have HB := Aside0.mk (zc HB2.out hb)
    clear ho hb hcz0 hcz1
    go_wp2_with ((with_reducible refine zd (f := 66) rfl ?_); refine zn (some 10) rfl rfl Try.func66 (by kernel_rfl) rfl #[.slice Ao L.length co] rfl (by (try simp only [List.map_toArray, List.map_cons, List.map_nil]); first | done | rfl) ?_; (with_reducible refine (zO.calls k _ _ L r _ (Kd.zh HO.out).2.2 (Kd.zh HO.out).2.1 HM.out).mono ?_); rintro e w10 ⟨v10, rfl, ho, hb⟩; refine ⟨_, rfl, ?_⟩; have HO2 := Aside0.mk (Kd.zD ho (zg HB.out)); have HB3 := Aside0.mk (zc HB.out hb); clear ho hb HB HO)
    go_ret
    exact ⟨_, rfl, HO2.out, HB3.out⟩
end Go.Proofs.Yteggmbhcnhbamaa.F
end
section
namespace Go.Proofs.Yteggmbhcnhbamaa.F
open Go.RowKit Go.Proofs.YteggmbhcnhbamaaW.PrintWords Go.Proofs.YteggmbhcnhbamaaW.PrintLast Go.Proofs.YteggmbhcnhbamaaW.PrintMore
set_option linter.unusedSimpArgs false
set_option linter.unusedVariables false
def zM.u (s : Int) (c : Int) : Option Bool := je.f c s
def zM.q (l : List Int) (s : Int) : Option Bool := if l.length ≤ 17592186044416 then ((Zv (zM.u s) l).bind fun b => some (!b)) else none
def zM.f (k : Nat) (a0 : Int) (l1 : List Int) : Option (List Int) := vE (zM.q l1) k a0 [] 0
theorem zM.zbv (s : Int) (gs : Nat) (w : World) (hm : w.heap[gs]? = some (.cells #[.int .i64 s] 3 (0, 0))) : y8 104 #[.pointer (some ⟨gs, 0, none⟩)] (zM.u s) w := by
  intro W x r hq hb
  unfold zM.u at hq
  have hc0 : W.cell? ⟨gs, 0, none⟩ = some (.int .i64 s) := (zb (ze hm hb) 0).trans rfl
  have H := Aside0.mk hq
  clear hq hm hb
  go_enter Try.func104, Try.ntmps104
  go_wp2_with (go_at_call 99; (try simp only [zj, zo]); (with_reducible refine (je.calls x s r _ H.out).mono ?_); rintro e w' ⟨rfl, ⟨nd, rfl⟩⟩)
  go_ret
  exact ⟨rfl, by repeat (first | exact Below.refl _ _ | apply qi | apply qh)⟩
theorem zM.pred (l : List Int) (A : Option Addr) (c gl : Nat) (w : World) (hm : w.heap[gl]? = some (.cells #[.slice A l.length c] 22 (0, 0)))
    (hr : Kd.C (Kd.int .i64) w A l.length l) (hc : l.length ≤ c) : y8 103 #[.pointer (some ⟨gl, 0, none⟩)] (zM.q l) w := by
  intro W x r hq hb
  unfold zM.q at hq
  by_cases hl : l.length ≤ 17592186044416
  case neg => rw [if_neg hl] at hq; exact absurd hq (by simp)
  rw [if_pos hl] at hq
  obtain ⟨b, hany, hq⟩ := Option.bind_eq_some_iff.mp hq
  obtain rfl := Option.some.inj hq
  have BKl := Aside0.mk (ze hm hb)
  have hc0 : W.cell? ⟨gl, 0, none⟩ = some (.slice A l.length c) := (zb BKl.out 0).trans rfl
  have HR := Aside0.mk (Kd.zp hr hb)
  have HC := Aside0.mk hc
  have HL := Aside0.mk hl
  have H := Aside0.mk hany
  clear hq hm hr hc hb hl hany
  go_enter Try.func103, Try.ntmps103
  go_wp2_with ((with_reducible refine zi (N := 2) rfl ?_); refine zl ?hg (N := 2) ?hd (cs := #[.int .i64 x]) (t := 3) ?hr ?_; (case hd => rfl); (case hg => rfl); (case hr => exact sqG); intro gs hg ws hbox hb; have HBs := Aside0.mk hb; have BKs := Aside0.mk hbox; clear hc0; have hcl : ws.cell? ⟨gl, 0, none⟩ = some (.slice A l.length c) := (zb (ze BKl.out HBs.out) 0).trans rfl; clear hb hbox hg)
  refine (jn (zM.u x) _ _ (enters_of Try.func104 (by kernel_rfl) rfl) _ _ l b _ (zM.zbv x gs _ BKs.out) (Kd.zp HR.out HBs.out) HC.out HL.out H.out).mono ?_
  rintro e w7 ⟨rfl, hb⟩
  have HB4 := Aside0.mk (zc HBs.out hb)
  clear hb hcl
  go_wp2
  go_ret
  exact ⟨by first | rfl | simp, HB4.out⟩
end Go.Proofs.Yteggmbhcnhbamaa.F
end
