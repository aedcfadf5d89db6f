/- Several texts of this session in one: GvFirstFailure, Fx5, Fx8, Fx7, Fx9, GvSetsOf, GvFlatsIn, Fx11, GvMaximalSets, Fx10, GvMinimalSets, GvCircuits, GvFromCircuitsQ. Conditions: as each theorem says. -/
import Derived.Test.YteggmbhcnhbamaaGreatZFromFlats0
import Derived.Test.YteggmbhcnhbamaaGreatZFromFlats2
import Derived.Test.YteggmbhcnhbamaaGreatZFromFlats3
import Derived.Shelf.Abstract
set_option maxHeartbeats 8000000
set_option maxRecDepth 100000
section
namespace Go.Proofs.YteggmbhcnhbamaaGreat.F
open Go.RowKit Go.Proofs.YteggmbhcnhbamaaGreatW.PrintWords Go.Proofs.YteggmbhcnhbamaaGreatW.PrintLast Go.Proofs.YteggmbhcnhbamaaGreatW.PrintMore
set_option linter.unusedSimpArgs false
set_option linter.unusedVariables false
/-- Does f put for e make a base of a? -/
def zu.q (k : Nat) (l : List Int) (a e : Int) (x : Int) : Option Bool :=
  if 0 ≤ e then (if 0 ≤ x then vy.f k l (Go.bits .or .i64 (Go.bits .andNot .i64 a (shl .i64 1 e)) (shl .i64 1 x)) else none) else none
mutual
def zu.l0 : Nat → List Int → Int → Option (Int × Int × Int × Bool)
  | 0, _, _ => none
  | k + 1, l, x21 => if x21 < (l.length : Int) then (if 0 ≤ x21 then zu.l1 k l x21 0 else none) else some (0, 0, 0, false)
def zu.l1 : Nat → List Int → Int → Int → Option (Int × Int × Int × Bool)
  | 0, _, _, _ => none
  | k + 1, l, x21, x28 => if x28 < (l.length : Int) then (if 0 ≤ x28 then ((z1.f k (Go.bits .andNot .i64 (rd l x21) (rd l x28))).bind fun es => zu.l2 k l x21 x28 es 0) else none) else zu.l0 k l (wrap64 (x21 + 1))
def zu.l2 : Nat → List Int → Int → Int → List Int → Int → Option (Int × Int × Int × Bool)
  | 0, _, _, _, _, _ => none
  | k + 1, l, x21, x28, es, x37 =>
    if x37 < (es.length : Int) then
      (if 0 ≤ x37 then ((z1.f k (Go.bits .andNot .i64 (rd l x28) (rd l x21))).bind fun fs => (if fs.length ≤ 17592186044416 then ((Zv (zu.q k l (rd l x21) (rd es x37)) fs).bind fun t =>
        if t = true then zu.l2 k l x21 x28 es (wrap64 (x37 + 1)) else some (rd l x21, rd l x28, rd es x37, true)) else none)) else none)
    else zu.l1 k l x21 (wrap64 (x28 + 1))
end
def zu.f (k : Nat) (a0_0 : Int) (l0_1 : List Int) : Option (Int × Int × Int × Bool) :=
  (zJ.f k a0_0 l0_1).bind fun t => if t = true then zu.l0 k l0_1 0 else some (0, 0, 0, false)
theorem zu.pred (k : Nat) (l : List Int) (a e n : Int) (A : Option Addr) (c gm ga ge : Nat) (w : World) (hm : w.heap[gm]? = some (.cells #[.int .i64 n, .slice A l.length c] 24 (0, 0)))
    (ha : w.heap[ga]? = some (.cells #[.int .i64 a] 3 (0, 0))) (he : w.heap[ge]? = some (.cells #[.int .i64 e] 3 (0, 0))) (hr : Kd.C (Kd.int .i64) w A l.length l) (hc : l.length ≤ c) :
    ZH 78 #[.pointer (some ⟨gm, 0, none⟩), .pointer (some ⟨ga, 0, none⟩), .pointer (some ⟨ge, 0, none⟩)] (zu.q k l a e) w := by
  intro W x r hq hb
  unfold zu.q at hq
  by_cases h0 : 0 ≤ e
  · rw [if_pos h0] at hq
    by_cases h1 : 0 ≤ x
    · rw [if_pos h1] at hq
      have hc0 : W.cell? ⟨gm, 1, none⟩ = some (.slice A l.length c) := (za (zd hm hb) 1).trans rfl
      have hc1 : W.cell? ⟨ga, 0, none⟩ = some (.int .i64 a) := (za (zd ha hb) 0).trans rfl
      have hc2 : W.cell? ⟨ge, 0, none⟩ = some (.int .i64 e) := (za (zd he hb) 0).trans rfl
      have HR := Aside0.mk (Kd.zt hr hb)
      have HC := Aside0.mk hc
      have hu := Tryz.underlying24
      obtain ⟨j1, hj1⟩ : ∃ j_ : Int, (shl .i64 1 e) = j_ := ⟨_, rfl⟩
      obtain ⟨j2, hj2⟩ : ∃ j_ : Int, (shl .i64 1 x) = j_ := ⟨_, rfl⟩
      rw [hj1, hj2] at hq
      have H := Aside0.mk hq
      clear hq hm ha he hr hc hb
      have hj1_ : (IntKind.i64.wrap (1 * 2 ^ min e.toNat 64)) = j1 := hj1
      have hj1u : (IntKind.i64.wrap (2 ^ min e.toNat 64)) = j1 := by have h_ := hj1_; rw [Int.one_mul] at h_; exact h_
      have hj1y : (wrap64 (1 * 2 ^ min e.toNat 64)) = j1 := (zi _).symm.trans hj1_
      have hj2_ : (IntKind.i64.wrap (1 * 2 ^ min x.toNat 64)) = j2 := hj2
      have hj2u : (IntKind.i64.wrap (2 ^ min x.toNat 64)) = j2 := by have h_ := hj2_; rw [Int.one_mul] at h_; exact h_
      have hj2y : (wrap64 (1 * 2 ^ min x.toNat 64)) = j2 := (zi _).symm.trans hj2_
      have c0b0 : decide (0 ≤ e) = true := decide_eq_true h0
      have c1b0 : decide (0 ≤ x) = true := decide_eq_true h1
      replace h0 := eq_true h0
      replace h1 := eq_true h1
      go_enter Tryz.func78, Tryz.ntmps78
      go_wp2
      repeat (go_quiet ((go_at_call 79; (try simp only [zi, zj]); (with_reducible refine (vy.calls k _ _ l _ r _ ?side1 HC.out H.out).mono ?_); (case side1 => repeat (first | exact HR.out | (with_reducible refine Kd.Zr ?_ _) | (with_reducible refine Kd.Ze ?_))); rintro e w' ⟨rfl, ⟨nd, rfl⟩⟩; (try first | exact ⟨rfl, _, World.drewN_drewN _ _ _⟩ | exact ⟨rfl, _, Eq.trans (World.drewN_drewN _ _ _) (congrArg (World.drewN _) (Nat.add_assoc _ _ _))⟩))); try go_wp2)
      go_ret
      exact ⟨rfl, by repeat (first | exact Below.refl _ _ | apply qg | apply qb)⟩
    · rw [if_neg h1] at hq; exact absurd hq (by simp)
  · rw [if_neg h0] at hq; exact absurd hq (by simp)
theorem zu.calls (k : Nat) (a0_0 : Int) (A0_1 : Option Addr) (c0_1 : Nat) (l0_1 : List Int) (r1 : Int) (r2 : Int) (r3 : Int) (r4 : Bool) (w : World) (hr0_1 : Kd.C (Kd.int .i64) w A0_1 l0_1.length l0_1) (hc0_1 : l0_1.length ≤ c0_1) (h : zu.f k a0_0 l0_1 = some (r1, r2, r3, r4)) :
    Calls Tryz.prog 64 #[.agg #[.int .i64 a0_0, .slice A0_1 l0_1.length c0_1]] w fun e w' => e = .returned (.tuple #[.agg #[.int .i64 r1, .int .i64 r2, .int .i64 r3], .bool r4]) ∧ Below w.heap.size w w' := by
  have hum := Tryz.underlying24
  have huf := Tryz.underlying46
  have HR := Aside0.mk hr0_1
  have HC := Aside0.mk hc0_1
  have HB := Aside0.mk (Below.refl w.heap.size w)
  clear hr0_1 hc0_1
  unfold zu.f at h
  obtain ⟨t0, ht0, h⟩ := Option.bind_eq_some_iff.mp h
  have HT := Aside0.mk ht0
  clear ht0
  have H := Aside0.mk h
  clear h
  cases t0 with
  | false =>
    go_enter Tryz.func64, Tryz.ntmps64
    go_wp2_with (first
      | ((with_reducible refine zm (N := 1) rfl ?_); refine zq ?hg (N := 1) ?hd (cs := #[.int .i64 a0_0, .slice A0_1 l0_1.length c0_1]) (t := 24) ?hr ?_; (case hd => rfl); (case hg => rfl); (case hr => exact sqG); intro gm hg w4 hbox hb; have HB1 := Aside0.mk hb; have BKm := Aside0.mk hbox; have HG1 := Aside0.mk hg; clear hb hbox hg)
      | ((with_reducible refine zm (N := 2) rfl ?_); refine zq ?hg (N := 2) ?hd (cs := #[.int .i64 0, .int .i64 0, .int .i64 0]) (t := 46) ?hr ?_; (case hd => rfl); (case hg => rfl); (case hr => exact sqG); intro gr hg w5 hbox hb; have HG2 := Aside0.mk hg; have HGr := Aside0.mk (show w.heap.size ≤ gr from by rw [hg]; exact HB1.out.size); have HNE := Aside0.mk (show gm ≠ gr from by rw [hg]; exact Nat.ne_of_lt (zU BKm.out)); have HS := Aside0.mk (FFS.mk (n := a0_0) (A := A0_1) (c := c0_1) (l := l0_1) (gm := gm) (gr := gr) (w0 := w) (zd BKm.out hb) hbox (Kd.zt HR.out (zc HB1.out hb)) (zc HB1.out hb)); clear BKm HB1 hb hbox hg; have hcz0 : w5.cell? ⟨gm, 0, none⟩ = some (.int .i64 a0_0) := (za HS.out.m 0).trans rfl; have hcz1 : w5.cell? ⟨gm, 1, none⟩ = some (.slice A0_1 l0_1.length c0_1) := (za HS.out.m 1).trans rfl)
      | ((with_reducible refine ze (f := 19) rfl ?_); refine zv (some 15) rfl rfl Tryz.func19 (by kernel_rfl) rfl #[.int .i64 a0_0, .slice A0_1 l0_1.length c0_1] rfl (by (try simp only [List.map_toArray, List.map_cons, List.map_nil]); first | done | rfl) ?_; (with_reducible refine (zJ.calls k a0_0 _ _ l0_1 false _ HS.out.C HC.out HT.out).mono ?_); rintro e w' ⟨rfl, ⟨nd, rfl⟩⟩; refine ⟨_, rfl, ?_⟩; generalize hw6 : w5.drewN nd = w6; have HS6 := Aside0.mk (HS.out.below (w2 := w6) (by rw [← hw6]; exact qb (Below.refl _ _) nd)); clear hw6 HS hcz0 hcz1; have HS := HS6; clear HS6; have hne := HNE.out; have hne2 := HNE.out.symm; have hcr0 : w6.cell? ⟨gr, 0, none⟩ = some (.int .i64 0) := (za HS.out.r 0).trans rfl; have hcr1 : w6.cell? ⟨gr, 1, none⟩ = some (.int .i64 0) := (za HS.out.r 1).trans rfl; have hcr2 : w6.cell? ⟨gr, 2, none⟩ = some (.int .i64 0) := (za HS.out.r 2).trans rfl; have hfr0 := zb HS.out.r 0; have hfr1 := zb HS.out.r 1; have hfr2 := zb HS.out.r 2))
    refine bodyPost_ret (qz rfl _ _ gr 46 #[.int .i64 0, .int .i64 0, .int .i64 0] (0, 0) _ rfl (by refine zF (cs := #[.int .i64 0, .int .i64 0, .int .i64 0]) ?_ 2 _ rfl; refine zF (cs := #[.int .i64 0, .int .i64 0, .int .i64 0]) ?_ 1 _ rfl; refine zF (cs := #[.int .i64 0, .int .i64 0, .int .i64 0]) ?_ 0 _ rfl; exact HS.out.r) Tryz.underlying46 rfl (by kernel_rfl)) rfl ?_
    have hh := H.out
    simp only [Bool.false_eq_true, if_false, Option.some.injEq, Prod.mk.injEq] at hh
    obtain ⟨rfl, rfl, rfl, rfl⟩ := hh
    exact ⟨rfl, by repeat (first | exact HS.out.B | refine jk ?_ HGr.out)⟩
  | true =>
    go_enter Tryz.func64, Tryz.ntmps64
    go_wp2_with (first
      | ((with_reducible refine zm (N := 1) rfl ?_); refine zq ?hg (N := 1) ?hd (cs := #[.int .i64 a0_0, .slice A0_1 l0_1.length c0_1]) (t := 24) ?hr ?_; (case hd => rfl); (case hg => rfl); (case hr => exact sqG); intro gm hg w4 hbox hb; have HB1 := Aside0.mk hb; have BKm := Aside0.mk hbox; have HG1 := Aside0.mk hg; clear hb hbox hg)
      | ((with_reducible refine zm (N := 2) rfl ?_); refine zq ?hg (N := 2) ?hd (cs := #[.int .i64 0, .int .i64 0, .int .i64 0]) (t := 46) ?hr ?_; (case hd => rfl); (case hg => rfl); (case hr => exact sqG); intro gr hg w5 hbox hb; have HG2 := Aside0.mk hg; have HGr := Aside0.mk (show w.heap.size ≤ gr from by rw [hg]; exact HB1.out.size); have HNE := Aside0.mk (show gm ≠ gr from by rw [hg]; exact Nat.ne_of_lt (zU BKm.out)); have HS := Aside0.mk (FFS.mk (n := a0_0) (A := A0_1) (c := c0_1) (l := l0_1) (gm := gm) (gr := gr) (w0 := w) (zd BKm.out hb) hbox (Kd.zt HR.out (zc HB1.out hb)) (zc HB1.out hb)); clear BKm HB1 hb hbox hg; have hcz0 : w5.cell? ⟨gm, 0, none⟩ = some (.int .i64 a0_0) := (za HS.out.m 0).trans rfl; have hcz1 : w5.cell? ⟨gm, 1, none⟩ = some (.slice A0_1 l0_1.length c0_1) := (za HS.out.m 1).trans rfl)
      | ((with_reducible refine ze (f := 19) rfl ?_); refine zv (some 15) rfl rfl Tryz.func19 (by kernel_rfl) rfl #[.int .i64 a0_0, .slice A0_1 l0_1.length c0_1] rfl (by (try simp only [List.map_toArray, List.map_cons, List.map_nil]); first | done | rfl) ?_; (with_reducible refine (zJ.calls k a0_0 _ _ l0_1 true _ HS.out.C HC.out HT.out).mono ?_); rintro e w' ⟨rfl, ⟨nd, rfl⟩⟩; refine ⟨_, rfl, ?_⟩; generalize hw6 : w5.drewN nd = w6; have HS6 := Aside0.mk (HS.out.below (w2 := w6) (by rw [← hw6]; exact qb (Below.refl _ _) nd)); clear hw6 HS hcz0 hcz1; have HS := HS6; clear HS6; have hcz1 : w6.cell? ⟨gm, 1, none⟩ = some (.slice A0_1 l0_1.length c0_1) := (za HS.out.m 1).trans rfl))
    have H0 := Aside0.mk (show zu.l0 k l0_1 0 = some (r1, r2, r3, r4) by have hh := H.out; simpa using hh)
    clear H hcz1
    go_loopg [21] k (fun kq v21 w' => ∃ (x21 : Int), v21 = .int .i64 x21 ∧ Aside0 (zu.l0 kq l0_1 x21 = some (r1, r2, r3, r4)) ∧ Aside0 (kq ≤ k) ∧ Aside0 (FFS w w' gm gr a0_0 A0_1 c0_1 l0_1))
    case atStart => exact ⟨0, rfl, H0, ⟨Nat.le_refl _⟩, HS⟩
    case round =>
      clear H0 HS HB HG1 HG2
      obtain ⟨x21, rfl, HA, HK1, HS⟩ := hrel
      cases gk with
      | zero => exact absurd HA.out (by simp [zu.l0])
      | succ k1 =>
        have H := HA.out
        clear HA
        simp only [zu.l0] at H
        by_cases c1 : x21 < (l0_1.length : Int)
        · rw [if_pos c1] at H
          by_cases c2 : 0 ≤ x21
          · rw [if_pos c2] at H
            have H1 := Aside0.mk H
            clear H
            have c1b0 : decide (x21 < (l0_1.length : Int)) = true := decide_eq_true c1
            have c2b0 : decide (0 ≤ x21) = true := decide_eq_true c2
            obtain ⟨ad1, e1, hx1⟩ := Kd.zT HS.out.C x21 c2 c1
            cases e1
            replace c1 := eq_true c1
            replace c2 := eq_true c2
            have hcz1 : wr.cell? ⟨gm, 1, none⟩ = some (.slice (some ad1) l0_1.length c0_1) := (za HS.out.m 1).trans rfl
            go_wp2_with (first
              | ((with_reducible refine zm (N := 5) rfl ?_); refine zq ?hg (N := 5) ?hd (cs := #[.int .i64 0]) (t := 3) ?hr ?_; (case hd => rfl); (case hg => rfl); (case hr => exact sqG); intro ga hg w7 hbox hb; have HG3 := Aside0.mk hg; have BKa := Aside0.mk hbox; have HBa := Aside0.mk hb; have hca : w7.cell? ⟨ga, 0, none⟩ = some (.int .i64 0) := (za BKa.out 0).trans rfl; have hfa := zb BKa.out 0; clear hg hbox hb hx1 hcz1)
              | ((with_reducible refine j3 (t := 3) (p := 5) rfl ?_); refine jM (t := 3) (p := 5) (v := ?vo_w8) (w1 := (w7.setCell ⟨ga, 0, none⟩ (.int .i64 (rd l0_1 x21)))) ?hg ?ho ?hn ?hr ?_; (case ho => rfl); (case hg => rfl); (case hn => rfl); (case hr => exact sqG); intro w8 hw; have hp_ := yY (v := .int .i64 (rd l0_1 x21)) HG3.out BKa.out HBa.out; rw [← hw] at hp_; have HS8 := Aside0.mk (HS.out.below hp_.2); have BK8 := Aside0.mk hp_.1; clear hp_ hw BKa HBa HG3 HS hca hfa; have HS := HS8; have BKa := BK8; clear HS8 BK8; have hcz1 : w8.cell? ⟨gm, 1, none⟩ = some (.slice (some ad1) l0_1.length c0_1) := (za HS.out.m 1).trans rfl))
            clear hcz1
            go_loopg [28] k1 (fun kq v28 w' => ∃ (x28 : Int), v28 = .int .i64 x28 ∧ Aside0 (zu.l1 kq l0_1 x21 x28 = some (r1, r2, r3, r4)) ∧ Aside0 (kq ≤ k1) ∧ Aside0 (FFS w w' gm gr a0_0 (some ad1) c0_1 l0_1) ∧ Aside0 (w'.heap[ga]? = some (.cells #[.int .i64 (rd l0_1 x21)] 3 (0, 0))))
            case atStart => exact ⟨0, rfl, H1, ⟨Nat.le_refl _⟩, HS, BKa⟩
            case round =>
              clear H1 HS BKa
              obtain ⟨x28, rfl, HA, HK2, HS, BKa⟩ := hrel
              cases gk with
              | zero => exact absurd HA.out (by simp [zu.l1])
              | succ k2 =>
                have H := HA.out
                clear HA
                simp only [zu.l1] at H
                by_cases c3 : x28 < (l0_1.length : Int)
                · rw [if_pos c3] at H
                  by_cases c4 : 0 ≤ x28
                  · rw [if_pos c4] at H
                    obtain ⟨es, hes, H⟩ := Option.bind_eq_some_iff.mp H
                    have H1 := Aside0.mk H
                    have HE := Aside0.mk hes
                    clear H hes
                    have c3b0 : decide (x28 < (l0_1.length : Int)) = true := decide_eq_true c3
                    have c4b0 : decide (0 ≤ x28) = true := decide_eq_true c4
                    obtain ⟨ad2, e2, hx2⟩ := Kd.zT HS.out.C x28 c4 c3
                    cases e2
                    replace c3 := eq_true c3
                    replace c4 := eq_true c4
                    have hca : wr.cell? ⟨ga, 0, none⟩ = some (.int .i64 (rd l0_1 x21)) := (za BKa.out 0).trans rfl
                    go_wp2_with ((with_reducible refine ze (f := 77) rfl ?_); refine zv (some 35) rfl rfl Tryz.func77 (by kernel_rfl) rfl #[.int .i64 (Go.bits .andNot .i64 (rd l0_1 x21) (rd l0_1 x28))] rfl (by (try simp only [List.map_toArray, List.map_cons, List.map_nil]); first | done | rfl) ?_; (with_reducible refine (z1.calls k2 _ es _ HE.out).mono ?_); rintro e w9 ⟨ve, rfl, ho, hb⟩; refine ⟨_, rfl, ?_⟩; obtain ⟨Ae, ce, ee⟩ := Kd.zK ho; subst ee; have HCE := Aside0.mk (Kd.zg ho).2.2; have HLE := Aside0.mk (Kd.zg ho).2.1; have HS9 := Aside0.mk (HS.out.below hb); have BK9 := Aside0.mk (zd BKa.out hb); clear ho hb HS BKa hx2 hca; have HS := HS9; have BKa := BK9; clear HS9 BK9)
                    go_loopg [37] k2 (fun kq v37 w' => ∃ (x37 : Int), v37 = .int .i64 x37 ∧ Aside0 (zu.l2 kq l0_1 x21 x28 es x37 = some (r1, r2, r3, r4)) ∧ Aside0 (kq ≤ k2) ∧ Aside0 (FFS w w' gm gr a0_0 (some ad1) c0_1 l0_1) ∧ Aside0 (w'.heap[ga]? = some (.cells #[.int .i64 (rd l0_1 x21)] 3 (0, 0))) ∧ Aside0 (Kd.C (Kd.int .i64) w' Ae es.length es))
                    case atStart => exact ⟨0, rfl, H1, ⟨Nat.le_refl _⟩, HS, BKa, HCE⟩
                    case round =>
                      clear H1 HS BKa HCE HE
                      obtain ⟨x37, rfl, HA, HK3, HS, BKa, HCE⟩ := hrel
                      cases gk with
                      | zero => exact absurd HA.out (by simp [zu.l2])
                      | succ k3 =>
                        have H := HA.out
                        clear HA
                        simp only [zu.l2] at H
                        by_cases c5 : x37 < (es.length : Int)
                        · rw [if_pos c5] at H
                          by_cases c6 : 0 ≤ x37
                          · rw [if_pos c6] at H
                            obtain ⟨fs, hfs, H⟩ := Option.bind_eq_some_iff.mp H
                            by_cases c7 : fs.length ≤ 17592186044416
                            · rw [if_pos c7] at H
                              obtain ⟨tt, htt, H⟩ := Option.bind_eq_some_iff.mp H
                              have HF := Aside0.mk hfs
                              have HLF := Aside0.mk c7
                              have HAny := Aside0.mk htt
                              have H1 := Aside0.mk H
                              clear H hfs c7 htt
                              have c5b0 : decide (x37 < (es.length : Int)) = true := decide_eq_true c5
                              have c6b0 : decide (0 ≤ x37) = true := decide_eq_true c6
                              obtain ⟨ad3, e3, hx3⟩ := Kd.zT HCE.out x37 c6 c5
                              cases e3
                              replace c5 := eq_true c5
                              replace c6 := eq_true c6
                              cases tt with
                              | true =>
                                go_wp2_with (first
                                  | ((with_reducible refine zm (N := 9) rfl ?_); refine zq ?hg (N := 9) ?hd (cs := #[.int .i64 0]) (t := 3) ?hr ?_; (case hd => rfl); (case hg => rfl); (case hr => exact sqG); intro ge hg w10 hbox hb; have HG4 := Aside0.mk hg; have BKe := Aside0.mk hbox; have HBe := Aside0.mk hb; have hce : w10.cell? ⟨ge, 0, none⟩ = some (.int .i64 0) := (za BKe.out 0).trans rfl; have hfe := zb BKe.out 0; clear hg hbox hb hx3)
                                  | ((with_reducible refine j3 (t := 3) (p := 9) rfl ?_); refine jM (t := 3) (p := 9) (v := ?vo_w11) (w1 := (w10.setCell ⟨ge, 0, none⟩ (.int .i64 (rd es x37)))) ?hg ?ho ?hn ?hr ?_; (case ho => rfl); (case hg => rfl); (case hn => rfl); (case hr => exact sqG); intro w11 hw; have hp_ := yY (v := .int .i64 (rd es x37)) HG4.out BKe.out HBe.out; rw [← hw] at hp_; have HS8 := Aside0.mk (HS.out.below hp_.2); have BK8 := Aside0.mk hp_.1; have BK7 := Aside0.mk (zd BKa.out hp_.2); have HC8 := Aside0.mk (Kd.zt HCE.out hp_.2); clear hp_ hw BKe HBe HG4 HS hce hfe BKa HCE; have HS := HS8; have BKe := BK8; have BKa := BK7; have HCE := HC8; clear HS8 BK8 BK7 HC8; have hca : w11.cell? ⟨ga, 0, none⟩ = some (.int .i64 (rd l0_1 x21)) := (za BKa.out 0).trans rfl)
                                  | ((with_reducible refine ze (f := 77) rfl ?_); refine zv (some 44) rfl rfl Tryz.func77 (by kernel_rfl) rfl #[.int .i64 (Go.bits .andNot .i64 (rd l0_1 x28) (rd l0_1 x21))] rfl (by (try simp only [List.map_toArray, List.map_cons, List.map_nil]); first | done | rfl) ?_; (with_reducible refine (z1.calls k3 _ fs _ HF.out).mono ?_); rintro e w12 ⟨vf, rfl, ho, hb⟩; refine ⟨_, rfl, ?_⟩; obtain ⟨Af, cf, ef⟩ := Kd.zK ho; subst ef; have HCF := Aside0.mk (Kd.zg ho).2.2; have HLF2 := Aside0.mk (Kd.zg ho).2.1; have HS8 := Aside0.mk (HS.out.below hb); have BK8 := Aside0.mk (zd BKe.out hb); have BK7 := Aside0.mk (zd BKa.out hb); have HC8 := Aside0.mk (Kd.zt HCE.out hb); clear ho hb BKe HS BKa HCE hca; have HS := HS8; have BKe := BK8; have BKa := BK7; have HCE := HC8; clear HS8 BK8 BK7 HC8))
                                refine (jc (zu.q k3 l0_1 (rd l0_1 x21) (rd es x37)) _ _ (enters_of Tryz.func78 (by kernel_rfl) rfl) _ _ fs true _ (zu.pred k3 l0_1 (rd l0_1 x21) (rd es x37) a0_0 _ c0_1 gm ga ge _ HS.out.m BKa.out BKe.out HS.out.C HC.out) HCF.out HLF2.out HLF.out HAny.out).mono ?_
                                rintro e w13 ⟨rfl, hb⟩
                                have HS8 := Aside0.mk (HS.out.below hb)
                                have BK8 := Aside0.mk (zd BKe.out hb)
                                have BK7 := Aside0.mk (zd BKa.out hb)
                                have HC8 := Aside0.mk (Kd.zt HCE.out hb)
                                clear hb BKe HS BKa HCE HCF
                                have HS := HS8
                                have BKe := BK8
                                have BKa := BK7
                                have HCE := HC8
                                clear HS8 BK8 BK7 HC8
                                go_wp2
                                go_roundg k3
                                case measure => have := HK1.out; have := HK2.out; have := HK3.out; omega
                                case rel => exact ⟨wrap64 (x37 + 1), rfl, ⟨by have hh := H1.out; simpa using hh⟩, ⟨by have := HK3.out; omega⟩, HS, BKa, HCE⟩
                              | false =>
                                have hh := H1.out
                                simp only [Bool.false_eq_true, if_false, Option.some.injEq, Prod.mk.injEq] at hh
                                obtain ⟨rfl, rfl, rfl, rfl⟩ := hh
                                clear H1
                                have hne := HNE.out
                                have hne2 := HNE.out.symm
                                go_wp2_with (first
                                  | ((with_reducible refine zm (N := 9) rfl ?_); refine zq ?hg (N := 9) ?hd (cs := #[.int .i64 0]) (t := 3) ?hr ?_; (case hd => rfl); (case hg => rfl); (case hr => exact sqG); intro ge hg w10 hbox hb; have HG4 := Aside0.mk hg; have BKe := Aside0.mk hbox; have HBe := Aside0.mk hb; have hce : w10.cell? ⟨ge, 0, none⟩ = some (.int .i64 0) := (za BKe.out 0).trans rfl; have hfe := zb BKe.out 0; clear hg hbox hb hx3)
                                  | ((with_reducible refine j3 (t := 3) (p := 9) rfl ?_); refine jM (t := 3) (p := 9) (v := ?vo_w11) (w1 := (w10.setCell ⟨ge, 0, none⟩ (.int .i64 (rd es x37)))) ?hg ?ho ?hn ?hr ?_; (case ho => rfl); (case hg => rfl); (case hn => rfl); (case hr => exact sqG); intro w11 hw; have hp_ := yY (v := .int .i64 (rd es x37)) HG4.out BKe.out HBe.out; rw [← hw] at hp_; have HS8 := Aside0.mk (HS.out.below hp_.2); have BK8 := Aside0.mk hp_.1; have BK7 := Aside0.mk (zd BKa.out hp_.2); have HC8 := Aside0.mk (Kd.zt HCE.out hp_.2); clear hp_ hw BKe HBe HG4 HS hce hfe BKa HCE; have HS := HS8; have BKe := BK8; have BKa := BK7; have HCE := HC8; clear HS8 BK8 BK7 HC8; have hca : w11.cell? ⟨ga, 0, none⟩ = some (.int .i64 (rd l0_1 x21)) := (za BKa.out 0).trans rfl)
                                  | ((with_reducible refine ze (f := 77) rfl ?_); refine zv (some 44) rfl rfl Tryz.func77 (by kernel_rfl) rfl #[.int .i64 (Go.bits .andNot .i64 (rd l0_1 x28) (rd l0_1 x21))] rfl (by (try simp only [List.map_toArray, List.map_cons, List.map_nil]); first | done | rfl) ?_; (with_reducible refine (z1.calls k3 _ fs _ HF.out).mono ?_); rintro e w12 ⟨vf, rfl, ho, hb⟩; refine ⟨_, rfl, ?_⟩; obtain ⟨Af, cf, ef⟩ := Kd.zK ho; subst ef; have HCF := Aside0.mk (Kd.zg ho).2.2; have HLF2 := Aside0.mk (Kd.zg ho).2.1; have HS8 := Aside0.mk (HS.out.below hb); have BK8 := Aside0.mk (zd BKe.out hb); have BK7 := Aside0.mk (zd BKa.out hb); have HC8 := Aside0.mk (Kd.zt HCE.out hb); clear ho hb BKe HS BKa HCE hca; have HS := HS8; have BKe := BK8; have BKa := BK7; have HCE := HC8; clear HS8 BK8 BK7 HC8))
                                refine (jc (zu.q k3 l0_1 (rd l0_1 x21) (rd es x37)) _ _ (enters_of Tryz.func78 (by kernel_rfl) rfl) _ _ fs false _ (zu.pred k3 l0_1 (rd l0_1 x21) (rd es x37) a0_0 _ c0_1 gm ga ge _ HS.out.m BKa.out BKe.out HS.out.C HC.out) HCF.out HLF2.out HLF.out HAny.out).mono ?_
                                rintro e w13 ⟨rfl, hb⟩
                                have HS8 := Aside0.mk (HS.out.below hb)
                                have BK8 := Aside0.mk (zd BKe.out hb)
                                have BK7 := Aside0.mk (zd BKa.out hb)
                                have HC8 := Aside0.mk (Kd.zt HCE.out hb)
                                clear hb BKe HS BKa HCE HCF
                                have HS := HS8
                                have BKe := BK8
                                have BKa := BK7
                                have HCE := HC8
                                clear HS8 BK8 BK7 HC8
                                have hca : w13.cell? ⟨ga, 0, none⟩ = some (.int .i64 (rd l0_1 x21)) := (za BKa.out 0).trans rfl
                                have hce : w13.cell? ⟨ge, 0, none⟩ = some (.int .i64 (rd es x37)) := (za BKe.out 0).trans rfl
                                have hcr0 : w13.cell? ⟨gr, 0, none⟩ = some (.int .i64 0) := (za HS.out.r 0).trans rfl
                                have hcr1 : w13.cell? ⟨gr, 1, none⟩ = some (.int .i64 0) := (za HS.out.r 1).trans rfl
                                have hcr2 : w13.cell? ⟨gr, 2, none⟩ = some (.int .i64 0) := (za HS.out.r 2).trans rfl
                                have hfr0 := zb HS.out.r 0
                                have hfr1 := zb HS.out.r 1
                                have hfr2 := zb HS.out.r 2
                                go_wp2
                                refine bodyPost_ret (qz rfl _ _ gr 46 #[.int .i64 (rd l0_1 x21), .int .i64 (rd l0_1 x28), .int .i64 (rd es x37)] (0, 0) _ rfl (by refine zF (cs := #[.int .i64 (rd l0_1 x21), .int .i64 (rd l0_1 x28), .int .i64 0]) ?_ 2 _ rfl; refine zF (cs := #[.int .i64 (rd l0_1 x21), .int .i64 0, .int .i64 0]) ?_ 1 _ rfl; refine zF (cs := #[.int .i64 0, .int .i64 0, .int .i64 0]) ?_ 0 _ rfl; exact HS.out.r) Tryz.underlying46 rfl (by kernel_rfl)) rfl ?_
                                exact ⟨rfl, by repeat (first | exact HS.out.B | refine jk ?_ HGr.out)⟩
                            · rw [if_neg c7] at H
                              exact absurd H (by simp)
                          · rw [if_neg c6] at H
                            exact absurd H (by simp)
                        · rw [if_neg c5] at H
                          have H1 := Aside0.mk H
                          clear H
                          have c5b0 : decide (x37 < (es.length : Int)) = false := decide_eq_false c5
                          clear c5
                          go_wp2
                          go_roundg k3
                          case measure => have := HK1.out; have := HK2.out; have := HK3.out; omega
                          case rel => exact ⟨wrap64 (x28 + 1), rfl, H1, ⟨by have := HK2.out; have := HK3.out; omega⟩, HS, BKa⟩
                  · rw [if_neg c4] at H
                    exact absurd H (by simp)
                · rw [if_neg c3] at H
                  have H1 := Aside0.mk H
                  clear H
                  have c3b0 : decide (x28 < (l0_1.length : Int)) = false := decide_eq_false c3
                  clear c3
                  go_wp2
                  go_roundg k2
                  case measure => have := HK1.out; have := HK2.out; omega
                  case rel => exact ⟨wrap64 (x21 + 1), rfl, H1, ⟨by have := HK1.out; have := HK2.out; omega⟩, HS⟩
          · rw [if_neg c2] at H
            exact absurd H (by simp)
        · rw [if_neg c1] at H
          simp only [Option.some.injEq, Prod.mk.injEq] at H
          obtain ⟨rfl, rfl, rfl, rfl⟩ := H
          have c1b0 : decide (x21 < (l0_1.length : Int)) = false := decide_eq_false c1
          clear c1
          have hne := HNE.out
          have hne2 := HNE.out.symm
          have hcr0 : wr.cell? ⟨gr, 0, none⟩ = some (.int .i64 0) := (za HS.out.r 0).trans rfl
          have hcr1 : wr.cell? ⟨gr, 1, none⟩ = some (.int .i64 0) := (za HS.out.r 1).trans rfl
          have hcr2 : wr.cell? ⟨gr, 2, none⟩ = some (.int .i64 0) := (za HS.out.r 2).trans rfl
          have hfr0 := zb HS.out.r 0
          have hfr1 := zb HS.out.r 1
          have hfr2 := zb HS.out.r 2
          go_wp2
          refine bodyPost_ret (qz rfl _ _ gr 46 #[.int .i64 0, .int .i64 0, .int .i64 0] (0, 0) _ rfl (by refine zF (cs := #[.int .i64 0, .int .i64 0, .int .i64 0]) ?_ 2 _ rfl; refine zF (cs := #[.int .i64 0, .int .i64 0, .int .i64 0]) ?_ 1 _ rfl; refine zF (cs := #[.int .i64 0, .int .i64 0, .int .i64 0]) ?_ 0 _ rfl; exact HS.out.r) Tryz.underlying46 rfl (by kernel_rfl)) rfl ?_
          exact ⟨rfl, by repeat (first | exact HS.out.B | refine jk ?_ HGr.out)⟩
end Go.Proofs.YteggmbhcnhbamaaGreat.F
end
section
namespace Go.Proofs.YteggmbhcnhbamaaGreat.F
open Go.RowKit Go.Proofs.YteggmbhcnhbamaaGreatW.PrintWords Go.Proofs.YteggmbhcnhbamaaGreatW.PrintLast Go.Proofs.YteggmbhcnhbamaaGreatW.PrintMore
attribute [local go_sem] jG jJ jZ jV jr jq jF jI   -- for this text's walks alone
set_option linter.unusedVariables false
set_option linter.unusedSimpArgs false

def qf.f (k : Nat) (a0_0 : Int) (l0_1 : List Int) : Option (Bool) := (zu.f k a0_0 l0_1).bind fun bt327 => ((zJ.f k a0_0 l0_1).bind fun t332 => (if t332 = true then (if (l0_1.length : Int) > 0 then (some (!bt327.2.2.2)) else (some false)) else (some false)))
theorem qf.calls (k : Nat) (a0_0 : Int) (A0_1 : Option Addr) (c0_1 : Nat) (l0_1 : List Int) (r : Bool) (w : World) (hr0_1 : Kd.C (Kd.int .i64) w A0_1 l0_1.length l0_1) (hc0_1 : l0_1.length ≤ c0_1) (h : qf.f k a0_0 l0_1 = some r) :
  Calls Tryz.prog 46 #[.agg #[.int .i64 a0_0, .slice A0_1 l0_1.length c0_1]] w fun e w' => e = .returned (.bool r) ∧ Below w.heap.size w w' := by
 have hu24 := Tryz.underlying24
 have hu46 := Tryz.underlying46
 have HR0_1 := Aside0.mk hr0_1
 have HC0_1 := Aside0.mk hc0_1
 clear hr0_1 hc0_1
 have HB := Aside0.mk (Below.refl w.heap.size w)
 have H : ((zu.f k a0_0 l0_1).bind fun bt327 => ((zJ.f k a0_0 l0_1).bind fun t332 => (if t332 = true then (if (l0_1.length : Int) > 0 then (some (!bt327.2.2.2)) else (some false)) else (some false)))) = some r := h
 clear h
 replace H := Option.bind_eq_some_iff.mp H
 obtain ⟨⟨t327, t328, t329, t330⟩, A20, H⟩ := H
 replace H : ((zJ.f k a0_0 l0_1).bind fun t332 => (if t332 = true then (if (l0_1.length : Int) > 0 then (some (!t330)) else (some false)) else (some false))) = some r := H
 have A2 := Aside0.mk A20
 clear A20
 replace H := Option.bind_eq_some_iff.mp H
 obtain ⟨t332, A30, H⟩ := H
 replace H : (if t332 = true then (if (l0_1.length : Int) > 0 then (some (!t330)) else (some false)) else (some false)) = some r := H
 have A3 := Aside0.mk A30
 clear A30
 by_cases c4 : t332 = true
 ·subst c4
  have H1 : (if (l0_1.length : Int) > 0 then (some (!t330)) else (some false)) = some r := by rw [if_pos rfl] at H; exact H
  clear H
  have H := H1
  clear H1
  by_cases c5 : (l0_1.length : Int) > 0
  ·rw [if_pos c5] at H
   have c5b0 : decide (0 < (l0_1.length : Int)) = true := decide_eq_true c5
   have c5b1 : decide (0 < l0_1.length) = true := decide_eq_true (by omega)
   clear c5
   obtain rfl := Option.some.inj H
   go_enter Tryz.func46, Tryz.ntmps46
   go_wp2_with (first | ((with_reducible refine zm (N := 1) rfl ?_); (try (refine jA (by rfl) ?_; dsimp only)); refine zq ?hg (N := 1) ?hd (cs := #[.int .i64 a0_0, .slice A0_1 l0_1.length c0_1]) (t := 24) ?hr ?_; (case hd => rfl); (case hg => rfl); (case hr => exact sqG); intro gb326 hg w6 hbox hb; have n0_ := Aside0.mk (zc sqB hb); have n1_ := Aside0.mk (hbox); have n2_ := Aside0.mk ((sqS hg : w.heap.size ≤ gb326)); have n3_ := Aside0.mk ((sqS hg : w.heap.size ≤ gb326)); clear HB; have HB := n0_; have BK326 := n1_; have GW326 := n2_; have GE326 := n3_; clear n0_ n1_ n2_ n3_; clear hb hbox hg; have hcz7_0 : w6.cell? ⟨gb326, 0, none⟩ = some (.int .i64 a0_0) := (za BK326.out 0).trans rfl; have hcz7_1 : w6.cell? ⟨gb326, 1, none⟩ = some (.slice A0_1 l0_1.length c0_1) := (za BK326.out 1).trans rfl; have hfz7_0 := zb BK326.out 0; have hfz7_1 := zb BK326.out 1) | ((with_reducible refine ze (f := 64) rfl ?_); refine zv (some 7) rfl rfl Tryz.func64 (by kernel_rfl) rfl #[.agg #[.int .i64 a0_0, .slice A0_1 l0_1.length c0_1]] rfl sqM ?_; (with_reducible refine (zu.calls k a0_0 _ _ l0_1 t327 t328 t329 t330 _ ?side1 ?side2 A2.out).mono ?_); (case side1 => exact sqC (Kd.zt HR0_1.out HB.out)); (case side2 => exact HC0_1.out); rintro e w8 ⟨rfl, hb⟩; refine ⟨_, rfl, ?_⟩; have n0_ := Aside0.mk (zd (g := gb326) (o := .cells #[.int .i64 a0_0, .slice A0_1 l0_1.length c0_1] 24 (0, 0)) (sqK BK326.out) hb); have n1_ := Aside0.mk (zc sqB hb); clear BK326; clear HB; have BK326 := n0_; have HB := n1_; clear n0_ n1_; (try clear hb); (try clear hb2); (try clear hk); (try clear hi)) | ((with_reducible refine zm (N := 3) rfl ?_); (try (refine jA (by rfl) ?_; dsimp only)); refine zq ?hg (N := 3) ?hd (cs := #[.int .i64 0, .int .i64 0, .int .i64 0]) (t := 46) ?hr ?_; (case hd => rfl); (case hg => rfl); (case hr => exact sqG); intro gb331 hg w9 hbox hb; have n0_ := Aside0.mk (zd (g := gb326) (o := .cells #[.int .i64 a0_0, .slice A0_1 l0_1.length c0_1] 24 (0, 0)) (sqK BK326.out) hb); have n1_ := Aside0.mk (zc sqB hb); have n2_ := Aside0.mk (hbox); have n3_ := Aside0.mk ((sqS hg : w.heap.size ≤ gb331)); have n4_ := Aside0.mk ((sqS hg : w.heap.size ≤ gb331)); have n5_ := Aside0.mk ((by rw [hg]; exact Nat.ne_of_lt (zU (g := gb326) (o := .cells #[.int .i64 a0_0, .slice A0_1 l0_1.length c0_1] 24 (0, 0)) (sqK BK326.out)) : gb326 ≠ gb331)); have n6_ := Aside0.mk ((by rw [hg]; exact Nat.ne_of_gt (zU (g := gb326) (o := .cells #[.int .i64 a0_0, .slice A0_1 l0_1.length c0_1] 24 (0, 0)) (sqK BK326.out)) : gb331 ≠ gb326)); clear BK326; clear HB; have BK326 := n0_; have HB := n1_; have BK331 := n2_; have GW331 := n3_; have GE331 := n4_; have NB326_331 := n5_; have NB331_326 := n6_; clear n0_ n1_ n2_ n3_ n4_ n5_ n6_; clear hb hbox hg; have hnb10 := NB331_326.out; have hnc10 := NB326_331.out; have hcz11_0 : w9.cell? ⟨gb331, 0, none⟩ = some (.int .i64 0) := (za BK331.out 0).trans rfl; have hcz11_1 : w9.cell? ⟨gb331, 1, none⟩ = some (.int .i64 0) := (za BK331.out 1).trans rfl; have hcz11_2 : w9.cell? ⟨gb331, 2, none⟩ = some (.int .i64 0) := (za BK331.out 2).trans rfl; have hfz11_0 := zb BK331.out 0; have hfz11_1 := zb BK331.out 1; have hfz11_2 := zb BK331.out 2; have hcz12_0 : w9.cell? ⟨gb326, 0, none⟩ = some (.int .i64 a0_0) := (za BK326.out 0).trans rfl; have hcz12_1 : w9.cell? ⟨gb326, 1, none⟩ = some (.slice A0_1 l0_1.length c0_1) := (za BK326.out 1).trans rfl; have hfz12_0 := zb BK326.out 0; have hfz12_1 := zb BK326.out 1) | ((with_reducible refine ze (f := 19) rfl ?_); refine zv (some 14) rfl rfl Tryz.func19 (by kernel_rfl) rfl #[.int .i64 a0_0, .slice A0_1 l0_1.length c0_1] rfl sqM ?_; (with_reducible refine (zJ.calls k a0_0 _ _ l0_1 true _ ?side1 ?side2 A3.out).mono ?_); (case side1 => exact Kd.zt HR0_1.out sqB); (case side2 => exact HC0_1.out); rintro e w' ⟨rfl, ⟨nd, rfl⟩⟩; refine ⟨_, rfl, ?_⟩))
   go_ret
   exact ⟨sqE, sqB⟩
  ·rw [if_neg c5] at H
   have c5b0 : decide (0 < (l0_1.length : Int)) = false := decide_eq_false c5
   have c5b1 : decide (0 < l0_1.length) = false := decide_eq_false (by omega)
   clear c5
   obtain rfl := Option.some.inj H
   go_enter Tryz.func46, Tryz.ntmps46
   go_wp2_with (first | ((with_reducible refine zm (N := 1) rfl ?_); (try (refine jA (by rfl) ?_; dsimp only)); refine zq ?hg (N := 1) ?hd (cs := #[.int .i64 a0_0, .slice A0_1 l0_1.length c0_1]) (t := 24) ?hr ?_; (case hd => rfl); (case hg => rfl); (case hr => exact sqG); intro gb326 hg w13 hbox hb; have n0_ := Aside0.mk (zc sqB hb); have n1_ := Aside0.mk (hbox); have n2_ := Aside0.mk ((sqS hg : w.heap.size ≤ gb326)); have n3_ := Aside0.mk ((sqS hg : w.heap.size ≤ gb326)); clear HB; have HB := n0_; have BK326 := n1_; have GW326 := n2_; have GE326 := n3_; clear n0_ n1_ n2_ n3_; clear hb hbox hg; have hcz14_0 : w13.cell? ⟨gb326, 0, none⟩ = some (.int .i64 a0_0) := (za BK326.out 0).trans rfl; have hcz14_1 : w13.cell? ⟨gb326, 1, none⟩ = some (.slice A0_1 l0_1.length c0_1) := (za BK326.out 1).trans rfl; have hfz14_0 := zb BK326.out 0; have hfz14_1 := zb BK326.out 1) | ((with_reducible refine ze (f := 64) rfl ?_); refine zv (some 7) rfl rfl Tryz.func64 (by kernel_rfl) rfl #[.agg #[.int .i64 a0_0, .slice A0_1 l0_1.length c0_1]] rfl sqM ?_; (with_reducible refine (zu.calls k a0_0 _ _ l0_1 t327 t328 t329 t330 _ ?side1 ?side2 A2.out).mono ?_); (case side1 => exact sqC (Kd.zt HR0_1.out HB.out)); (case side2 => exact HC0_1.out); rintro e w15 ⟨rfl, hb⟩; refine ⟨_, rfl, ?_⟩; have n0_ := Aside0.mk (zd (g := gb326) (o := .cells #[.int .i64 a0_0, .slice A0_1 l0_1.length c0_1] 24 (0, 0)) (sqK BK326.out) hb); have n1_ := Aside0.mk (zc sqB hb); clear BK326; clear HB; have BK326 := n0_; have HB := n1_; clear n0_ n1_; (try clear hb); (try clear hb2); (try clear hk); (try clear hi)) | ((with_reducible refine zm (N := 3) rfl ?_); (try (refine jA (by rfl) ?_; dsimp only)); refine zq ?hg (N := 3) ?hd (cs := #[.int .i64 0, .int .i64 0, .int .i64 0]) (t := 46) ?hr ?_; (case hd => rfl); (case hg => rfl); (case hr => exact sqG); intro gb331 hg w16 hbox hb; have n0_ := Aside0.mk (zd (g := gb326) (o := .cells #[.int .i64 a0_0, .slice A0_1 l0_1.length c0_1] 24 (0, 0)) (sqK BK326.out) hb); have n1_ := Aside0.mk (zc sqB hb); have n2_ := Aside0.mk (hbox); have n3_ := Aside0.mk ((sqS hg : w.heap.size ≤ gb331)); have n4_ := Aside0.mk ((sqS hg : w.heap.size ≤ gb331)); have n5_ := Aside0.mk ((by rw [hg]; exact Nat.ne_of_lt (zU (g := gb326) (o := .cells #[.int .i64 a0_0, .slice A0_1 l0_1.length c0_1] 24 (0, 0)) (sqK BK326.out)) : gb326 ≠ gb331)); have n6_ := Aside0.mk ((by rw [hg]; exact Nat.ne_of_gt (zU (g := gb326) (o := .cells #[.int .i64 a0_0, .slice A0_1 l0_1.length c0_1] 24 (0, 0)) (sqK BK326.out)) : gb331 ≠ gb326)); clear BK326; clear HB; have BK326 := n0_; have HB := n1_; have BK331 := n2_; have GW331 := n3_; have GE331 := n4_; have NB326_331 := n5_; have NB331_326 := n6_; clear n0_ n1_ n2_ n3_ n4_ n5_ n6_; clear hb hbox hg; have hnb17 := NB331_326.out; have hnc17 := NB326_331.out; have hcz18_0 : w16.cell? ⟨gb331, 0, none⟩ = some (.int .i64 0) := (za BK331.out 0).trans rfl; have hcz18_1 : w16.cell? ⟨gb331, 1, none⟩ = some (.int .i64 0) := (za BK331.out 1).trans rfl; have hcz18_2 : w16.cell? ⟨gb331, 2, none⟩ = some (.int .i64 0) := (za BK331.out 2).trans rfl; have hfz18_0 := zb BK331.out 0; have hfz18_1 := zb BK331.out 1; have hfz18_2 := zb BK331.out 2; have hcz19_0 : w16.cell? ⟨gb326, 0, none⟩ = some (.int .i64 a0_0) := (za BK326.out 0).trans rfl; have hcz19_1 : w16.cell? ⟨gb326, 1, none⟩ = some (.slice A0_1 l0_1.length c0_1) := (za BK326.out 1).trans rfl; have hfz19_0 := zb BK326.out 0; have hfz19_1 := zb BK326.out 1) | ((with_reducible refine ze (f := 19) rfl ?_); refine zv (some 14) rfl rfl Tryz.func19 (by kernel_rfl) rfl #[.int .i64 a0_0, .slice A0_1 l0_1.length c0_1] rfl sqM ?_; (with_reducible refine (zJ.calls k a0_0 _ _ l0_1 true _ ?side1 ?side2 A3.out).mono ?_); (case side1 => exact Kd.zt HR0_1.out sqB); (case side2 => exact HC0_1.out); rintro e w' ⟨rfl, ⟨nd, rfl⟩⟩; refine ⟨_, rfl, ?_⟩))
   go_ret
   exact ⟨sqE, sqB⟩
 ·replace c4 := Bool.eq_false_iff.mpr c4
  subst c4
  have H1 : (some false) = some r := by rw [if_neg (show ¬ (false = true) by decide)] at H; exact H
  clear H
  have H := H1
  clear H1
  obtain rfl := Option.some.inj H
  go_enter Tryz.func46, Tryz.ntmps46
  go_wp2_with (first | ((with_reducible refine zm (N := 1) rfl ?_); (try (refine jA (by rfl) ?_; dsimp only)); refine zq ?hg (N := 1) ?hd (cs := #[.int .i64 a0_0, .slice A0_1 l0_1.length c0_1]) (t := 24) ?hr ?_; (case hd => rfl); (case hg => rfl); (case hr => exact sqG); intro gb326 hg w20 hbox hb; have n0_ := Aside0.mk (zc sqB hb); have n1_ := Aside0.mk (hbox); have n2_ := Aside0.mk ((sqS hg : w.heap.size ≤ gb326)); have n3_ := Aside0.mk ((sqS hg : w.heap.size ≤ gb326)); clear HB; have HB := n0_; have BK326 := n1_; have GW326 := n2_; have GE326 := n3_; clear n0_ n1_ n2_ n3_; clear hb hbox hg; have hcz21_0 : w20.cell? ⟨gb326, 0, none⟩ = some (.int .i64 a0_0) := (za BK326.out 0).trans rfl; have hcz21_1 : w20.cell? ⟨gb326, 1, none⟩ = some (.slice A0_1 l0_1.length c0_1) := (za BK326.out 1).trans rfl; have hfz21_0 := zb BK326.out 0; have hfz21_1 := zb BK326.out 1) | ((with_reducible refine ze (f := 64) rfl ?_); refine zv (some 7) rfl rfl Tryz.func64 (by kernel_rfl) rfl #[.agg #[.int .i64 a0_0, .slice A0_1 l0_1.length c0_1]] rfl sqM ?_; (with_reducible refine (zu.calls k a0_0 _ _ l0_1 t327 t328 t329 t330 _ ?side1 ?side2 A2.out).mono ?_); (case side1 => exact sqC (Kd.zt HR0_1.out HB.out)); (case side2 => exact HC0_1.out); rintro e w22 ⟨rfl, hb⟩; refine ⟨_, rfl, ?_⟩; have n0_ := Aside0.mk (zd (g := gb326) (o := .cells #[.int .i64 a0_0, .slice A0_1 l0_1.length c0_1] 24 (0, 0)) (sqK BK326.out) hb); have n1_ := Aside0.mk (zc sqB hb); clear BK326; clear HB; have BK326 := n0_; have HB := n1_; clear n0_ n1_; (try clear hb); (try clear hb2); (try clear hk); (try clear hi)) | ((with_reducible refine zm (N := 3) rfl ?_); (try (refine jA (by rfl) ?_; dsimp only)); refine zq ?hg (N := 3) ?hd (cs := #[.int .i64 0, .int .i64 0, .int .i64 0]) (t := 46) ?hr ?_; (case hd => rfl); (case hg => rfl); (case hr => exact sqG); intro gb331 hg w23 hbox hb; have n0_ := Aside0.mk (zd (g := gb326) (o := .cells #[.int .i64 a0_0, .slice A0_1 l0_1.length c0_1] 24 (0, 0)) (sqK BK326.out) hb); have n1_ := Aside0.mk (zc sqB hb); have n2_ := Aside0.mk (hbox); have n3_ := Aside0.mk ((sqS hg : w.heap.size ≤ gb331)); have n4_ := Aside0.mk ((sqS hg : w.heap.size ≤ gb331)); have n5_ := Aside0.mk ((by rw [hg]; exact Nat.ne_of_lt (zU (g := gb326) (o := .cells #[.int .i64 a0_0, .slice A0_1 l0_1.length c0_1] 24 (0, 0)) (sqK BK326.out)) : gb326 ≠ gb331)); have n6_ := Aside0.mk ((by rw [hg]; exact Nat.ne_of_gt (zU (g := gb326) (o := .cells #[.int .i64 a0_0, .slice A0_1 l0_1.length c0_1] 24 (0, 0)) (sqK BK326.out)) : gb331 ≠ gb326)); clear BK326; clear HB; have BK326 := n0_; have HB := n1_; have BK331 := n2_; have GW331 := n3_; have GE331 := n4_; have NB326_331 := n5_; have NB331_326 := n6_; clear n0_ n1_ n2_ n3_ n4_ n5_ n6_; clear hb hbox hg; have hnb24 := NB331_326.out; have hnc24 := NB326_331.out; have hcz25_0 : w23.cell? ⟨gb331, 0, none⟩ = some (.int .i64 0) := (za BK331.out 0).trans rfl; have hcz25_1 : w23.cell? ⟨gb331, 1, none⟩ = some (.int .i64 0) := (za BK331.out 1).trans rfl; have hcz25_2 : w23.cell? ⟨gb331, 2, none⟩ = some (.int .i64 0) := (za BK331.out 2).trans rfl; have hfz25_0 := zb BK331.out 0; have hfz25_1 := zb BK331.out 1; have hfz25_2 := zb BK331.out 2; have hcz26_0 : w23.cell? ⟨gb326, 0, none⟩ = some (.int .i64 a0_0) := (za BK326.out 0).trans rfl; have hcz26_1 : w23.cell? ⟨gb326, 1, none⟩ = some (.slice A0_1 l0_1.length c0_1) := (za BK326.out 1).trans rfl; have hfz26_0 := zb BK326.out 0; have hfz26_1 := zb BK326.out 1) | ((with_reducible refine ze (f := 19) rfl ?_); refine zv (some 14) rfl rfl Tryz.func19 (by kernel_rfl) rfl #[.int .i64 a0_0, .slice A0_1 l0_1.length c0_1] rfl sqM ?_; (with_reducible refine (zJ.calls k a0_0 _ _ l0_1 false _ ?side1 ?side2 A3.out).mono ?_); (case side1 => exact Kd.zt HR0_1.out sqB); (case side2 => exact HC0_1.out); rintro e w' ⟨rfl, ⟨nd, rfl⟩⟩; refine ⟨_, rfl, ?_⟩))
  go_ret
  exact ⟨sqE, sqB⟩

end Go.Proofs.YteggmbhcnhbamaaGreat.F
end
section
namespace Go.Proofs.YteggmbhcnhbamaaGreat.F
open Go.RowKit Go.Proofs.YteggmbhcnhbamaaGreatW.PrintWords Go.Proofs.YteggmbhcnhbamaaGreatW.PrintLast Go.Proofs.YteggmbhcnhbamaaGreatW.PrintMore
attribute [local go_sem] jG jJ jZ jV jr jq jF jI   -- for this text's walks alone
set_option linter.unusedVariables false
set_option linter.unusedSimpArgs false

def qJ.f (k : Nat) (a0_0 : Int) (l0_1 : List Int) : Option (Int × List Int) := (qf.f k a0_0 l0_1).bind fun t359 => (if t359 = true then ((zI.f k a0_0 l0_1).bind fun t360 => (some (a0_0, t360))) else (some (0, ([] : List Int))))
def qJ.T3 : Bool × List (List Nat × List Nat) := (true, [([], []), ([0], [0]), ([], []), ([2], [2]), ([], []), ([4], [4]), ([3, 5], [3, 5]), ([1, 6], [1, 6]), ([7, 6, 0, 1, 2, 3, 4, 5, 6, 7], [7])])
def qJ.B3 : List Nat := [0, 1, 0, 4, 0, 16, 60, 127, 255]
theorem qJ.zbh : vO .any (opsOf Tryz.f39 3) = qJ.T3 := by kernel_rfl
theorem qJ.zah : vt qJ.T3.2 qJ.B3 = true := by kernel_rfl
theorem qJ.calls (k : Nat) (a0_0 : Int) (A0_1 : Option Addr) (c0_1 : Nat) (l0_1 : List Int) (r1 : Int) (r2 : List Int) (w : World) (hr0_1 : Kd.C (Kd.int .i64) w A0_1 l0_1.length l0_1) (hc0_1 : l0_1.length ≤ c0_1) (h : qJ.f k a0_0 l0_1 = some (r1, r2)) :
  Calls Tryz.prog 39 #[.agg #[.int .i64 a0_0, .slice A0_1 l0_1.length c0_1]] w fun e w' => ∃ v1_ : Value, e = .returned (.agg #[.int .i64 r1, v1_]) ∧ Kd.R (Kd.int .i64) 3 w' w.heap.size (fun _ => True) v1_ r2 ∧ Below w.heap.size w w' := by
 have hu24 := Tryz.underlying24
 have HR0_1 := Aside0.mk hr0_1
 have HC0_1 := Aside0.mk hc0_1
 clear hr0_1 hc0_1
 have HB := Aside0.mk (Below.refl w.heap.size w)
 have H : ((qf.f k a0_0 l0_1).bind fun t359 => (if t359 = true then ((zI.f k a0_0 l0_1).bind fun t360 => (some (a0_0, t360))) else (some (0, ([] : List Int))))) = some (r1, r2) := h
 clear h
 replace H := Option.bind_eq_some_iff.mp H
 obtain ⟨t359, A20, H⟩ := H
 replace H : (if t359 = true then ((zI.f k a0_0 l0_1).bind fun t360 => (some (a0_0, t360))) else (some (0, ([] : List Int)))) = some (r1, r2) := H
 have A2 := Aside0.mk A20
 clear A20
 by_cases c3 : t359 = true
 ·subst c3
  have H1 : ((zI.f k a0_0 l0_1).bind fun t360 => (some (a0_0, t360))) = some (r1, r2) := by rw [if_pos rfl] at H; exact H
  clear H
  have H := H1
  clear H1
  replace H := Option.bind_eq_some_iff.mp H
  obtain ⟨t360, A40, H⟩ := H
  replace H : (some (a0_0, t360)) = some (r1, r2) := H
  have A4 := Aside0.mk A40
  clear A40
  simp only [Option.some.injEq, Prod.mk.injEq] at H
  obtain ⟨rfl, rfl⟩ := H
  go_enter Tryz.func39, Tryz.ntmps39
  try go_wp2_with (first | ((with_reducible refine zm (N := 1) rfl ?_); refine zq ?hg (N := 1) ?hd (cs := #[.int .i64 a0_0, .slice A0_1 l0_1.length c0_1]) (t := 24) ?hr ?_; (case hd => rfl); (case hg => rfl); (case hr => exact sqG); intro gb357 hg w5 hbox hb; have n0_ := Aside0.mk (zc sqB hb); have n1_ := Aside0.mk (hbox); have n2_ := Aside0.mk ((sqS hg : w.heap.size ≤ gb357)); have n3_ := Aside0.mk ((sqS hg : w.heap.size ≤ gb357)); clear HB; have HB := n0_; have BK357 := n1_; have GW357 := n2_; have GE357 := n3_; clear n0_ n1_ n2_ n3_; clear hb hbox hg) | ((with_reducible refine zm (N := 2) rfl ?_); refine zq ?hg (N := 2) ?hd (cs := #[.int .i64 0, .slice none 0 0]) (t := 24) ?hr ?_; (case hd => rfl); (case hg => rfl); (case hr => exact sqG); intro gb358 hg w6 hbox hb; have n0_ := Aside0.mk (zd (g := gb357) (o := .cells #[.int .i64 a0_0, .slice A0_1 l0_1.length c0_1] 24 (0, 0)) (sqK BK357.out) hb); have n1_ := Aside0.mk (zc sqB hb); have n2_ := Aside0.mk (hbox); have n3_ := Aside0.mk ((sqS hg : w.heap.size ≤ gb358)); have n4_ := Aside0.mk ((sqS hg : w.heap.size ≤ gb358)); have n5_ := Aside0.mk ((by rw [hg]; exact Nat.ne_of_lt (zU (g := gb357) (o := .cells #[.int .i64 a0_0, .slice A0_1 l0_1.length c0_1] 24 (0, 0)) (sqK BK357.out)) : gb357 ≠ gb358)); have n6_ := Aside0.mk ((by rw [hg]; exact Nat.ne_of_gt (zU (g := gb357) (o := .cells #[.int .i64 a0_0, .slice A0_1 l0_1.length c0_1] 24 (0, 0)) (sqK BK357.out)) : gb358 ≠ gb357)); clear BK357; clear HB; have BK357 := n0_; have HB := n1_; have BK358 := n2_; have GW358 := n3_; have GE358 := n4_; have NB357_358 := n5_; have NB358_357 := n6_; clear n0_ n1_ n2_ n3_ n4_ n5_ n6_; clear hb hbox hg; have hnb7 := NB357_358.out; have hnc7 := NB358_357.out; have hcz8_0 : w6.cell? ⟨gb357, 0, none⟩ = some (.int .i64 a0_0) := (za BK357.out 0).trans rfl; have hcz8_1 : w6.cell? ⟨gb357, 1, none⟩ = some (.slice A0_1 l0_1.length c0_1) := (za BK357.out 1).trans rfl; have hfz8_0 := zb BK357.out 0; have hfz8_1 := zb BK357.out 1) | ((with_reducible refine ze (f := 46) rfl ?_); refine zv (some 4) rfl rfl Tryz.func46 (by kernel_rfl) rfl #[.agg #[.int .i64 a0_0, .slice A0_1 l0_1.length c0_1]] rfl sqM ?_; (with_reducible refine (qf.calls k a0_0 _ _ l0_1 true _ ?side1 ?side2 A2.out).mono ?_); (case side1 => exact sqC (Kd.zt HR0_1.out HB.out)); (case side2 => exact HC0_1.out); rintro e w9 ⟨rfl, hb⟩; refine ⟨_, rfl, ?_⟩; have n0_ := Aside0.mk (zd (g := gb357) (o := .cells #[.int .i64 a0_0, .slice A0_1 l0_1.length c0_1] 24 (0, 0)) (sqK BK357.out) hb); have n1_ := Aside0.mk (zd (g := gb358) (o := .cells #[.int .i64 0, .slice none 0 0] 24 (0, 0)) (sqK BK358.out) hb); have n2_ := Aside0.mk (zc sqB hb); clear BK357; clear BK358; clear HB; have BK357 := n0_; have BK358 := n1_; have HB := n2_; clear n0_ n1_ n2_; (try clear hb); (try clear hb2); (try clear hk); (try clear hi)))
  have n0_ := Aside0.mk (jj BK357.out)
  have n1_ := Aside0.mk (jj BK358.out)
  have n2_ := Aside0.mk (qg HB.out)
  clear BK357
  clear BK358
  clear HB
  have BK357 := n0_
  have BK358 := n1_
  have HB := n2_
  clear n0_ n1_ n2_
  refine jW (n := 9) (S := fun w' => w'.cell? ⟨gb357, 0, none⟩ = some (.int .i64 a0_0) ∧ w'.cell? ⟨gb357, 1, none⟩ = some (.slice A0_1 l0_1.length c0_1)) (ds := []) #[false, false, false, false, false, false, false, false, false] (by kernel_rfl) rfl rfl ⟨(za BK357.out 0).trans rfl, (za BK357.out 1).trans rfl⟩ (fun hHeld => ?_); refine ja qJ.zbh qJ.zah (fun HT_ HW_ => ?_)
  generalize w9.drew = w10 at BK357 BK358 HB hHeld ⊢
  refine zO (i := 0) (N := some 7) (v := ?_) (a' := ?_) #[true, false, false, false, false, false, false, false, false] rfl rfl (zC HT_.out (by kernel_rfl)) (fun _ _ _ h => h) (Or.inl ⟨by rfl, ?_⟩) ?_ ?_
  rotate_left
  ·intro w'
   go_simp
   with_reducible rfl
  rotate_left
  ·simp only [Act.put, List.setIfInBounds_toArray, List.set_cons_zero, List.set_cons_succ, zi, zj]
   rfl
  refine zO (i := 2) (N := some 9) (v := ?_) (a' := ?_) #[true, false, true, false, false, false, false, false, false] rfl rfl (zC HT_.out (by kernel_rfl)) (fun _ _ _ h => h) (Or.inl ⟨by rfl, ?_⟩) ?_ ?_
  rotate_left
  ·intro w'
   go_simp
   with_reducible rfl
  rotate_left
  ·simp only [Act.put, List.setIfInBounds_toArray, List.set_cons_zero, List.set_cons_succ, zi, zj]
   rfl
  refine zO (i := 4) (N := some 11) (v := ?_) (a' := ?_) #[true, false, true, false, true, false, false, false, false] rfl rfl (zC HT_.out (by kernel_rfl)) (fun _ _ _ h => h) (Or.inl ⟨by rfl, ?_⟩) ?_ ?_
  rotate_left
  ·intro w'
   go_simp
   with_reducible rfl
  rotate_left
  ·simp only [Act.put, List.setIfInBounds_toArray, List.set_cons_zero, List.set_cons_succ, zi, zj]
   rfl
  refine jD (i := 1) (N := some 8) (v := ?_) (a' := ?_) #[true, true, true, false, true, false, false, false, false] rfl rfl (qT HT_.out HW_.out (by kernel_rfl)) (fun _ _ _ h => h) (Or.inl ⟨by rfl, ?_⟩) hHeld ?_ ?_
  rotate_left
  ·rintro w' ⟨s0, s1⟩
   go_simp
   with_reducible rfl
  rotate_left
  ·simp only [Act.put, List.setIfInBounds_toArray, List.set_cons_zero, List.set_cons_succ, zi, zj]
   rfl
  refine jD (i := 3) (N := some 10) (v := ?_) (a' := ?_) #[true, true, true, true, true, false, false, false, false] rfl rfl (qT HT_.out HW_.out (by kernel_rfl)) (fun _ _ _ h => h) (Or.inl ⟨by rfl, ?_⟩) hHeld ?_ ?_
  rotate_left
  ·rintro w' ⟨s0, s1⟩
   go_simp
   with_reducible rfl
  rotate_left
  ·simp only [Act.put, List.setIfInBounds_toArray, List.set_cons_zero, List.set_cons_succ, zi, zj]
   rfl
  refine jD (i := 5) (N := some 12) (v := ?_) (a' := ?_) #[true, true, true, true, true, true, false, false, false] rfl rfl (qT HT_.out HW_.out (by kernel_rfl)) (fun _ _ _ h => h) (Or.inl ⟨by rfl, ?_⟩) hHeld ?_ ?_
  rotate_left
  ·rintro w' ⟨s0, s1⟩
   go_simp
   with_reducible rfl
  rotate_left
  ·simp only [Act.put, List.setIfInBounds_toArray, List.set_cons_zero, List.set_cons_succ, zi, zj]
   rfl
  refine yT (i := 6) (N := some 13) #[true, true, true, true, true, true, true, false, false] rfl rfl (j7 HT_.out (by kernel_rfl)) (by decide) (fun K hK => ?_)
  refine yE Tryz.func38 (by kernel_rfl) rfl #[.int .i64 a0_0, .slice A0_1 l0_1.length c0_1] (by rfl) rfl rfl sqM ?_
  with_reducible refine (zI.calls k a0_0 _ _ l0_1 t360 _ ?side1 ?side2 A4.out).mono ?_
  (case side1 => exact sqC (Kd.zt HR0_1.out HB.out))
  (case side2 => exact HC0_1.out)
  rintro e w11 ⟨v361, rfl, ho0, hb⟩
  refine ⟨_, rfl, ?_⟩
  have n0_ := Aside0.mk (Kd.zD ho0 (zh sqB))
  have n1_ := Aside0.mk (zd (g := gb357) (o := .cells #[.int .i64 a0_0, .slice A0_1 l0_1.length c0_1] 24 (0, 0)) (sqK BK357.out) hb)
  have n2_ := Aside0.mk (zd (g := gb358) (o := .cells #[.int .i64 0, .slice none 0 0] 24 (0, 0)) (sqK BK358.out) hb)
  have n3_ := Aside0.mk (zc sqB hb)
  clear BK357
  clear BK358
  clear HB
  have HO362 := n0_
  have BK357 := n1_
  have BK358 := n2_
  have HB := n3_
  clear n0_ n1_ n2_ n3_
  (try clear hb)
  (try clear hb2)
  (try clear hk)
  (try clear hi)
  (try clear ho0)
  obtain ⟨Ao12, co12, eo12⟩ := Kd.zK HO362.out
  (first | subst eo12 | (injection eo12 with f1_ f2_ f3_; have f4_ := f1_.symm; have f5_ := f3_.symm; clear f1_ f2_ f3_; subst f4_; subst f5_))
  refine hK.out _ _ ⟨(za BK357.out 0).trans rfl, (za BK357.out 1).trans rfl⟩ (fun hHeld => ?_)
  clear hK K
  refine vG (a' := ?_) ?_ ?_
  rotate_left
  ·show Act.put _ (some 13) _ = _
   simp only [Act.put, List.setIfInBounds_toArray, List.set_cons_zero, List.set_cons_succ, zi, zj]
   rfl
  refine zO (i := 7) (N := some 14) (v := ?_) (a' := ?_) #[true, true, true, true, true, true, true, true, false] rfl rfl (zC HT_.out (by kernel_rfl)) (fun _ _ _ h => h) (Or.inl ⟨by rfl, ?_⟩) ?_ ?_
  rotate_left
  ·intro w'
   go_simp
   with_reducible rfl
  rotate_left
  ·simp only [Act.put, List.setIfInBounds_toArray, List.set_cons_zero, List.set_cons_succ, zi, zj]
   rfl
  refine yT (i := 8) (N := none) #[true, true, true, true, true, true, true, true, true] rfl rfl (j7 HT_.out (by kernel_rfl)) (by decide) (fun K hK => ?_)
  have hs13 : w11.cell? ⟨gb358, 0, none⟩ = some (.int .i64 0) := (za BK358.out 0).trans rfl
  have hfs13 := zb BK358.out 0
  have hns13_0 := NB357_358.out
  have hms13_0 := NB358_357.out
  have hs14 : w11.cell? ⟨gb358, 1, none⟩ = some (.slice none 0 0) := (za BK358.out 1).trans rfl
  have hfs14 := zb BK358.out 1
  have hns14_0 := NB357_358.out
  have hms14_0 := NB358_357.out
  refine zby (w1 := ?_) (by rfl) rfl ?_ ?_
  rotate_left
  ·go_simp
   rfl
  refine hK.out _ _ ⟨((cell_far (p := ⟨gb358, _, none⟩) NB357_358.out _).trans (((cell_far (p := ⟨gb358, _, none⟩) NB357_358.out _).trans (hHeld.1)))), ((cell_far (p := ⟨gb358, _, none⟩) NB357_358.out _).trans (((cell_far (p := ⟨gb358, _, none⟩) NB357_358.out _).trans (hHeld.2))))⟩ (fun hHeld => ?_)
  clear hK K
  refine vF (jK HT_.out (by kernel_rfl)) ?_
  try go_wp2
  refine bodyPost_ret (results_cell_row rfl _ _ gb358 24 #[.int .i64 a0_0, .slice Ao12 t360.length co12] (0, 0) _ rfl (by refine sqK ?_; refine zF (cs := #[.int .i64 a0_0, .slice none 0 0]) ?_ 1 _ rfl; refine sqK ?_; refine zF (cs := #[.int .i64 0, .slice none 0 0]) ?_ 0 _ rfl; refine sqK ?_; exact BK358.out) Tryz.underlying24 rfl (by kernel_rfl)) rfl ?_
  exact ⟨_, sqE, by refine sqR ?_; exact Kd.zn (Kd.zp (p := ⟨gb358, 1, none⟩) (Kd.zp (p := ⟨gb358, 0, none⟩) (Kd.zz HO362.out BK358.out (by decide)) (fun _ hk => hk.2) (.int .i64 a0_0)) (fun _ hk => hk.2) (.slice Ao12 t360.length co12)) (fun _ hk => trivial), sqB⟩
 ·replace c3 := Bool.eq_false_iff.mpr c3
  subst c3
  have H1 : (some (0, ([] : List Int))) = some (r1, r2) := by rw [if_neg (show ¬ (false = true) by decide)] at H; exact H
  clear H
  have H := H1
  clear H1
  simp only [Option.some.injEq, Prod.mk.injEq] at H
  obtain ⟨rfl, rfl⟩ := H
  go_enter Tryz.func39, Tryz.ntmps39
  go_wp2_with (first | ((with_reducible refine zm (N := 1) rfl ?_); refine zq ?hg (N := 1) ?hd (cs := #[.int .i64 a0_0, .slice A0_1 l0_1.length c0_1]) (t := 24) ?hr ?_; (case hd => rfl); (case hg => rfl); (case hr => exact sqG); intro gb357 hg w15 hbox hb; have n0_ := Aside0.mk (zc sqB hb); have n1_ := Aside0.mk (hbox); have n2_ := Aside0.mk ((sqS hg : w.heap.size ≤ gb357)); have n3_ := Aside0.mk ((sqS hg : w.heap.size ≤ gb357)); clear HB; have HB := n0_; have BK357 := n1_; have GW357 := n2_; have GE357 := n3_; clear n0_ n1_ n2_ n3_; clear hb hbox hg) | ((with_reducible refine zm (N := 2) rfl ?_); refine zq ?hg (N := 2) ?hd (cs := #[.int .i64 0, .slice none 0 0]) (t := 24) ?hr ?_; (case hd => rfl); (case hg => rfl); (case hr => exact sqG); intro gb358 hg w16 hbox hb; have n0_ := Aside0.mk (zd (g := gb357) (o := .cells #[.int .i64 a0_0, .slice A0_1 l0_1.length c0_1] 24 (0, 0)) (sqK BK357.out) hb); have n1_ := Aside0.mk (zc sqB hb); have n2_ := Aside0.mk (hbox); have n3_ := Aside0.mk ((sqS hg : w.heap.size ≤ gb358)); have n4_ := Aside0.mk ((sqS hg : w.heap.size ≤ gb358)); have n5_ := Aside0.mk ((by rw [hg]; exact Nat.ne_of_lt (zU (g := gb357) (o := .cells #[.int .i64 a0_0, .slice A0_1 l0_1.length c0_1] 24 (0, 0)) (sqK BK357.out)) : gb357 ≠ gb358)); have n6_ := Aside0.mk ((by rw [hg]; exact Nat.ne_of_gt (zU (g := gb357) (o := .cells #[.int .i64 a0_0, .slice A0_1 l0_1.length c0_1] 24 (0, 0)) (sqK BK357.out)) : gb358 ≠ gb357)); clear BK357; clear HB; have BK357 := n0_; have HB := n1_; have BK358 := n2_; have GW358 := n3_; have GE358 := n4_; have NB357_358 := n5_; have NB358_357 := n6_; clear n0_ n1_ n2_ n3_ n4_ n5_ n6_; clear hb hbox hg; have hnb17 := NB357_358.out; have hnc17 := NB358_357.out; have hcz18_0 : w16.cell? ⟨gb357, 0, none⟩ = some (.int .i64 a0_0) := (za BK357.out 0).trans rfl; have hcz18_1 : w16.cell? ⟨gb357, 1, none⟩ = some (.slice A0_1 l0_1.length c0_1) := (za BK357.out 1).trans rfl; have hfz18_0 := zb BK357.out 0; have hfz18_1 := zb BK357.out 1) | ((with_reducible refine ze (f := 46) rfl ?_); refine zv (some 4) rfl rfl Tryz.func46 (by kernel_rfl) rfl #[.agg #[.int .i64 a0_0, .slice A0_1 l0_1.length c0_1]] rfl sqM ?_; (with_reducible refine (qf.calls k a0_0 _ _ l0_1 false _ ?side1 ?side2 A2.out).mono ?_); (case side1 => exact sqC (Kd.zt HR0_1.out HB.out)); (case side2 => exact HC0_1.out); rintro e w19 ⟨rfl, hb⟩; refine ⟨_, rfl, ?_⟩; have n0_ := Aside0.mk (zd (g := gb357) (o := .cells #[.int .i64 a0_0, .slice A0_1 l0_1.length c0_1] 24 (0, 0)) (sqK BK357.out) hb); have n1_ := Aside0.mk (zd (g := gb358) (o := .cells #[.int .i64 0, .slice none 0 0] 24 (0, 0)) (sqK BK358.out) hb); have n2_ := Aside0.mk (zc sqB hb); clear BK357; clear BK358; clear HB; have BK357 := n0_; have BK358 := n1_; have HB := n2_; clear n0_ n1_ n2_; (try clear hb); (try clear hb2); (try clear hk); (try clear hi); have hcz20_0 : w19.cell? ⟨gb358, 0, none⟩ = some (.int .i64 0) := (za BK358.out 0).trans rfl; have hcz20_1 : w19.cell? ⟨gb358, 1, none⟩ = some (.slice none 0 0) := (za BK358.out 1).trans rfl; have hfz20_0 := zb BK358.out 0; have hfz20_1 := zb BK358.out 1))
  refine bodyPost_ret (results_cell_row rfl _ _ gb358 24 #[.int .i64 0, .slice none 0 0] (0, 0) _ rfl (by refine sqK ?_; refine zF (cs := #[.int .i64 0, .slice none 0 0]) ?_ 1 _ rfl; refine sqK ?_; refine zF (cs := #[.int .i64 0, .slice none 0 0]) ?_ 0 _ rfl; refine sqK ?_; exact BK358.out) Tryz.underlying24 rfl (by kernel_rfl)) rfl ?_
  exact ⟨_, sqE, sqN, sqB⟩

end Go.Proofs.YteggmbhcnhbamaaGreat.F
end
section
namespace Go.Proofs.YteggmbhcnhbamaaGreat.F
open Go.RowKit Go.Proofs.YteggmbhcnhbamaaGreatW.PrintWords Go.Proofs.YteggmbhcnhbamaaGreatW.PrintLast Go.Proofs.YteggmbhcnhbamaaGreatW.PrintMore
attribute [local go_sem] jG jJ jZ jV jr jq jF jI   -- for this text's walks alone
set_option linter.unusedVariables false
set_option linter.unusedSimpArgs false

def jv.f (a0 : Int) : Option (Int) := (jE.f a0).bind fun t363 => (some t363)
theorem jv.calls (a0 : Int) (r : Int) (w : World) (h : jv.f a0 = some r) :
  Calls Tryz.prog 82 #[.int .u64 a0] w fun e w' => e = .returned (.int .i64 r) ∧ zl w w' := by
 have H : ((jE.f a0).bind fun t363 => (some t363)) = some r := h
 clear h
 replace H := Option.bind_eq_some_iff.mp H
 obtain ⟨t363, A20, H⟩ := H
 replace H : (some t363) = some r := H
 have A2 := Aside0.mk A20
 clear A20
 obtain rfl := Option.some.inj H
 go_enter Tryz.func82, Tryz.ntmps82
 go_wp2_with (first | ((with_reducible refine ze (f := 97) rfl ?_); refine zv (some 7) rfl rfl Tryz.func97 (by kernel_rfl) rfl #[.int .u64 a0] rfl sqM ?_; (with_reducible refine (jE.calls a0 t363 _ A2.out).mono ?_); rintro e w' ⟨rfl, ⟨nd, rfl⟩⟩; refine ⟨_, rfl, ?_⟩))
 go_ret
 exact ⟨sqD, by repeat (first | exact zl.refl _ | apply zl.step)⟩

def jh.f (a0 : Int) : Option (Int) := (qA.f a0).bind fun t364 => (if t364 = true then ((jv.f (IntKind.u64.wrap (a0))).bind fun t365 => (some t365)) else (some 0))
theorem jh.calls (a0 : Int) (r : Int) (w : World) (h : jh.f a0 = some r) :
  Calls Tryz.prog 74 #[.int .i64 a0] w fun e w' => e = .returned (.int .i64 r) ∧ zl w w' := by
 have H : ((qA.f a0).bind fun t364 => (if t364 = true then ((jv.f (IntKind.u64.wrap (a0))).bind fun t365 => (some t365)) else (some 0))) = some r := h
 clear h
 replace H := Option.bind_eq_some_iff.mp H
 obtain ⟨t364, A20, H⟩ := H
 replace H : (if t364 = true then ((jv.f (IntKind.u64.wrap (a0))).bind fun t365 => (some t365)) else (some 0)) = some r := H
 have A2 := Aside0.mk A20
 clear A20
 by_cases c3 : t364 = true
 ·subst c3
  have H1 : ((jv.f (IntKind.u64.wrap (a0))).bind fun t365 => (some t365)) = some r := by rw [if_pos rfl] at H; exact H
  clear H
  have H := H1
  clear H1
  replace H := Option.bind_eq_some_iff.mp H
  obtain ⟨t365, A40, H⟩ := H
  replace H : (some t365) = some r := H
  have A4 := Aside0.mk A40
  clear A40
  obtain rfl := Option.some.inj H
  go_enter Tryz.func74, Tryz.ntmps74
  go_wp2_with (first | ((with_reducible refine ze (f := 60) rfl ?_); refine zv (some 4) rfl rfl Tryz.func60 (by kernel_rfl) rfl #[.int .i64 a0] rfl sqM ?_; (with_reducible refine (qA.calls a0 true _ A2.out).mono ?_); rintro e w' ⟨rfl, ⟨nd, rfl⟩⟩; refine ⟨_, rfl, ?_⟩) | ((with_reducible refine ze (f := 82) rfl ?_); refine zv (some 8) rfl rfl Tryz.func82 (by kernel_rfl) rfl #[.int .u64 (IntKind.u64.wrap (a0))] rfl sqM ?_; (with_reducible refine (jv.calls (IntKind.u64.wrap (a0)) t365 _ A4.out).mono ?_); rintro e w' ⟨rfl, ⟨nd, rfl⟩⟩; refine ⟨_, rfl, ?_⟩))
  go_ret
  exact ⟨sqD, by repeat (first | exact zl.refl _ | apply zl.step)⟩
 ·replace c3 := Bool.eq_false_iff.mpr c3
  subst c3
  have H1 : (some 0) = some r := by rw [if_neg (show ¬ (false = true) by decide)] at H; exact H
  clear H
  have H := H1
  clear H1
  obtain rfl := Option.some.inj H
  go_enter Tryz.func74, Tryz.ntmps74
  go_wp2_with (first | ((with_reducible refine ze (f := 60) rfl ?_); refine zv (some 4) rfl rfl Tryz.func60 (by kernel_rfl) rfl #[.int .i64 a0] rfl sqM ?_; (with_reducible refine (qA.calls a0 false _ A2.out).mono ?_); rintro e w' ⟨rfl, ⟨nd, rfl⟩⟩; refine ⟨_, rfl, ?_⟩))
  go_ret
  exact ⟨sqD, by repeat (first | exact zl.refl _ | apply zl.step)⟩

def qy.l0 : Nat → Int → Int → List Int → Int → Int → Option (Int)
 | 0, _, _, _, _, _ => none
 | k + 1, x1, x5, x9, x10, x11 => if x11 < x10 then (if 0 ≤ x11 then (if x11 < (x9.length : Int) then ((jh.f (Go.bits .and .i64 x1 (rd x9 x11))).bind fun t368 => (qy.l0 k x1 (mx x5 t368) x9 x10 (wrap64 (x11 + 1)))) else (none)) else (none)) else (some x5)
def qy.f (k : Nat) (a0_0 : Int) (l0_1 : List Int) (a1 : Int) : Option (Int) := qy.l0 k a1 0 l0_1 (l0_1.length : Int) 0
theorem qy.calls (k : Nat) (a0_0 : Int) (A0_1 : Option Addr) (c0_1 : Nat) (l0_1 : List Int) (a1 : Int) (r : Int) (w : World) (hr0_1 : Kd.C (Kd.int .i64) w A0_1 l0_1.length l0_1) (hc0_1 : l0_1.length ≤ c0_1) (h : qy.f k a0_0 l0_1 a1 = some r) :
  Calls Tryz.prog 73 #[.agg #[.int .i64 a0_0, .slice A0_1 l0_1.length c0_1], .int .i64 a1] w fun e w' => e = .returned (.int .i64 r) ∧ Below w.heap.size w w' := by
 have hu24 := Tryz.underlying24
 have HR0_1 := Aside0.mk hr0_1
 have HC0_1 := Aside0.mk hc0_1
 clear hr0_1 hc0_1
 have HB := Aside0.mk (Below.refl w.heap.size w)
 have H : (qy.l0 k a1 0 l0_1 (l0_1.length : Int) 0) = some r := h
 clear h
 have H' := Aside0.mk H
 clear H
 go_enter Tryz.func73, Tryz.ntmps73
 go_wp2_with (first | ((with_reducible refine zm (N := 2) rfl ?_); refine zq ?hg (N := 2) ?hd (cs := #[.int .i64 a0_0, .slice A0_1 l0_1.length c0_1]) (t := 24) ?hr ?_; (case hd => rfl); (case hg => rfl); (case hr => exact sqG); intro gb366 hg w3 hbox hb; have n0_ := Aside0.mk (zc sqB hb); have n1_ := Aside0.mk (hbox); have n2_ := Aside0.mk ((sqS hg : w.heap.size ≤ gb366)); have n3_ := Aside0.mk ((sqS hg : w.heap.size ≤ gb366)); clear HB; have HB := n0_; have BK366 := n1_; have GW366 := n2_; have GE366 := n3_; clear n0_ n1_ n2_ n3_; clear hb hbox hg; have hcz4_0 : w3.cell? ⟨gb366, 0, none⟩ = some (.int .i64 a0_0) := (za BK366.out 0).trans rfl; have hcz4_1 : w3.cell? ⟨gb366, 1, none⟩ = some (.slice A0_1 l0_1.length c0_1) := (za BK366.out 1).trans rfl; have hfz4_0 := zb BK366.out 0; have hfz4_1 := zb BK366.out 1))
 go_loopg [5, 11] k (fun kq v5 v11 w' => ∃ (x5_1 : Int) (x11_1 : Int), v5 = .int .i64 x5_1 ∧ v11 = .int .i64 x11_1 ∧ Aside0 (qy.l0 kq a1 x5_1 l0_1 (l0_1.length : Int) x11_1 = some r) ∧ Aside0 (kq ≤ k) ∧ Aside0 (w'.heap[gb366]? = some (.cells #[.int .i64 a0_0, (.slice A0_1 l0_1.length c0_1)] 24 (0, 0))) ∧ Aside0 (Below w.heap.size w w'))
 case atStart => exact ⟨(0), (0), (sqD), (sqD), H', ⟨Nat.le_refl _⟩, ⟨sqK BK366.out⟩, ⟨sqB⟩⟩
 case round =>
  clear H'
  try clear p2
  try clear hcz4_0
  try clear hcz4_1
  try clear hfz4_0
  try clear hfz4_1
  obtain ⟨x5_1, x11_1, rfl, rfl, HA, HK1, BK366, HB⟩ := hrel
  cases gk with
  | zero => exact absurd HA.out (by simp [qy.l0])
  | succ k1 =>
   have H := HA.out
   clear HA
   simp only [qy.l0] at H
   by_cases c5 : x11_1 < (l0_1.length : Int)
   ·rw [if_pos c5] at H
    have c5b0 : decide (x11_1 < (l0_1.length : Int)) = true := decide_eq_true c5
    clear c5
    by_cases c6 : 0 ≤ x11_1
    ·rw [if_pos c6] at H
     have c6b0 : decide (0 ≤ x11_1) = true := decide_eq_true c6
     clear c6
     by_cases c7 : x11_1 < (l0_1.length : Int)
     ·rw [if_pos c7] at H
      have c7b0 : decide (x11_1 < (l0_1.length : Int)) = true := decide_eq_true c7
      clear c7
      replace H := Option.bind_eq_some_iff.mp H
      obtain ⟨t368, A80, H⟩ := H
      replace H : (qy.l0 k1 a1 (mx x5_1 t368) l0_1 (l0_1.length : Int) (wrap64 (x11_1 + 1))) = some r := H
      have A8 := Aside0.mk A80
      clear A80
      obtain ⟨ji9, hji9⟩ : ∃ j_ : Int, (mx x5_1 t368) = j_ := ⟨_, rfl⟩
      replace H : (qy.l0 k1 a1 ji9 l0_1 (l0_1.length : Int) (wrap64 (x11_1 + 1))) = some r := by first | (rw [hji9] at H; exact H) | (simp only [hji9] at H ⊢; exact H)
      (try rw [hji9] at A8)
      have hji9_ : (if x5_1 < t368 then t368 else x5_1) = ji9 := hji9
      have H' := Aside0.mk H
      clear H
      have p367 : 0 ≤ (x11_1 : Int) := of_decide_eq_true sqA
      have q367 : x11_1 < (l0_1.length : Int) := of_decide_eq_true sqA
      obtain ⟨ad367, e367, hx367_0⟩ := Kd.zT HR0_1.out x11_1 p367 q367
      cases e367
      replace hx367_0 := (HB.out.cell (World.block_lt_of_cell? w _ hx367_0)).trans hx367_0
      replace p367 := eq_true p367
      replace q367 := eq_true q367
      go_wp2_with (first | ((with_reducible refine ze (f := 74) rfl ?_); refine zv (some 19) rfl rfl Tryz.func74 (by kernel_rfl) rfl #[.int .i64 (Go.bits .and .i64 a1 (rd l0_1 x11_1))] rfl sqM ?_; (with_reducible refine (jh.calls (Go.bits .and .i64 a1 (rd l0_1 x11_1)) t368 _ A8.out).mono ?_); rintro e w' ⟨rfl, ⟨nd, rfl⟩⟩; refine ⟨_, rfl, ?_⟩))
      go_roundg k1
      case measure => have := HK1.out; omega
      case rel => exact ⟨(ji9), (wrap64 (x11_1 + 1)), (by first | rfl | (simp; done) | (simp only [← hji9] <;> (first | rfl | simp)) | (simp [*]; done)), (sqD), H', ⟨by have := HK1.out; omega⟩, ⟨sqK BK366.out⟩, ⟨sqB⟩⟩
     ·rw [if_neg c7] at H
      exact absurd H (by simp)
    ·rw [if_neg c6] at H
     exact absurd H (by simp)
   ·rw [if_neg c5] at H
    have c5b0 : decide (x11_1 < (l0_1.length : Int)) = false := decide_eq_false c5
    clear c5
    obtain rfl := Option.some.inj H
    go_wp2
    go_ret
    exact ⟨sqE, sqB⟩

def zZ.l0 : Nat → Int → Int → Int → Int → Int → List Int → Option (Int)
 | 0, _, _, _, _, _, _ => none
 | k + 1, x1, x5, x6, x7, x370000, x370001 => if x7 < x370000 then (if 0 ≤ x7 then ((qy.f k x370000 x370001 (Go.bits .or .i64 x1 (shl .i64 1 x7))).bind fun t371 => (if t371 = x5 then (zZ.l0 k x1 x5 (Go.bits .or .i64 x6 (shl .i64 1 x7)) (wrap64 (x7 + 1)) x370000 x370001) else (zZ.l0 k x1 x5 x6 (wrap64 (x7 + 1)) x370000 x370001))) else (none)) else (some x6)
def zZ.f (k : Nat) (a0_0 : Int) (l0_1 : List Int) (a1 : Int) : Option (Int) := (qy.f k a0_0 l0_1 a1).bind fun t370 => (zZ.l0 k a1 t370 0 0 a0_0 l0_1)
def zZ.T6 : Bool × List (List Nat × List Nat) := (true, [([], []), ([], []), ([], []), ([2], [2]), ([1, 3], [1, 3]), ([0, 4], [0, 4]), ([], []), ([5, 6], [5, 6])])
def zZ.B6 : List Nat := [0, 0, 0, 4, 14, 31, 0, 127]
theorem zZ.JH : vO .any (opsOf Tryz.f66 6) = zZ.T6 := by kernel_rfl
theorem zZ.Zz : vt zZ.T6.2 zZ.B6 = true := by kernel_rfl
theorem zZ.calls (k : Nat) (a0_0 : Int) (A0_1 : Option Addr) (c0_1 : Nat) (l0_1 : List Int) (a1 : Int) (r : Int) (w : World) (hr0_1 : Kd.C (Kd.int .i64) w A0_1 l0_1.length l0_1) (hc0_1 : l0_1.length ≤ c0_1) (h : zZ.f k a0_0 l0_1 a1 = some r) :
  Calls Tryz.prog 66 #[.agg #[.int .i64 a0_0, .slice A0_1 l0_1.length c0_1], .int .i64 a1] w fun e w' => e = .returned (.int .i64 r) ∧ Below w.heap.size w w' := by
 have hu24 := Tryz.underlying24
 have HR0_1 := Aside0.mk hr0_1
 have HC0_1 := Aside0.mk hc0_1
 clear hr0_1 hc0_1
 have HB := Aside0.mk (Below.refl w.heap.size w)
 have H : ((qy.f k a0_0 l0_1 a1).bind fun t370 => (zZ.l0 k a1 t370 0 0 a0_0 l0_1)) = some r := h
 clear h
 replace H := Option.bind_eq_some_iff.mp H
 obtain ⟨t370, A30, H⟩ := H
 replace H : (zZ.l0 k a1 t370 0 0 a0_0 l0_1) = some r := H
 have A3 := Aside0.mk A30
 clear A30
 have H' := Aside0.mk H
 clear H
 go_enter Tryz.func66, Tryz.ntmps66
 go_wp2_with (first | ((with_reducible refine zm (N := 2) rfl ?_); refine zq ?hg (N := 2) ?hd (cs := #[.int .i64 a0_0, .slice A0_1 l0_1.length c0_1]) (t := 24) ?hr ?_; (case hd => rfl); (case hg => rfl); (case hr => exact sqG); intro gb369 hg w4 hbox hb; have n0_ := Aside0.mk (zc sqB hb); have n1_ := Aside0.mk (hbox); have n2_ := Aside0.mk ((sqS hg : w.heap.size ≤ gb369)); have n3_ := Aside0.mk ((sqS hg : w.heap.size ≤ gb369)); clear HB; have HB := n0_; have BK369 := n1_; have GW369 := n2_; have GE369 := n3_; clear n0_ n1_ n2_ n3_; clear hb hbox hg; have hcz5_0 : w4.cell? ⟨gb369, 0, none⟩ = some (.int .i64 a0_0) := (za BK369.out 0).trans rfl; have hcz5_1 : w4.cell? ⟨gb369, 1, none⟩ = some (.slice A0_1 l0_1.length c0_1) := (za BK369.out 1).trans rfl; have hfz5_0 := zb BK369.out 0; have hfz5_1 := zb BK369.out 1) | ((with_reducible refine ze (f := 73) rfl ?_); refine zv (some 10) rfl rfl Tryz.func73 (by kernel_rfl) rfl #[.agg #[.int .i64 a0_0, .slice A0_1 l0_1.length c0_1], .int .i64 a1] rfl sqM ?_; (with_reducible refine (qy.calls k a0_0 _ _ l0_1 a1 t370 _ ?side1 ?side2 A3.out).mono ?_); (case side1 => exact sqC (Kd.zt HR0_1.out HB.out)); (case side2 => exact HC0_1.out); rintro e w6 ⟨rfl, hb⟩; refine ⟨_, rfl, ?_⟩; have n0_ := Aside0.mk (zd (g := gb369) (o := .cells #[.int .i64 a0_0, .slice A0_1 l0_1.length c0_1] 24 (0, 0)) (sqK BK369.out) hb); have n1_ := Aside0.mk (zc sqB hb); clear BK369; clear HB; have BK369 := n0_; have HB := n1_; clear n0_ n1_; (try clear hb); (try clear hb2); (try clear hk); (try clear hi)))
 go_loopg [6, 7] k (fun kq v6 v7 w' => ∃ (x6_1 : Int) (x7_1 : Int), v6 = .int .i64 x6_1 ∧ v7 = .int .i64 x7_1 ∧ Aside0 (zZ.l0 kq a1 t370 x6_1 x7_1 a0_0 l0_1 = some r) ∧ Aside0 (kq ≤ k) ∧ Aside0 (w'.heap[gb369]? = some (.cells #[.int .i64 a0_0, (.slice A0_1 l0_1.length c0_1)] 24 (0, 0))) ∧ Aside0 (Below w.heap.size w w'))
 case atStart => exact ⟨(0), (0), (sqD), (sqD), H', ⟨Nat.le_refl _⟩, ⟨sqK BK369.out⟩, ⟨sqB⟩⟩
 case round =>
  clear H'
  try clear p2
  try clear c6
  try clear hcz5_0
  try clear hcz5_1
  try clear hfz5_0
  try clear hfz5_1
  obtain ⟨x6_1, x7_1, rfl, rfl, HA, HK1, BK369, HB⟩ := hrel
  cases gk with
  | zero => exact absurd HA.out (by simp [zZ.l0])
  | succ k1 =>
   have H := HA.out
   clear HA
   simp only [zZ.l0] at H
   by_cases c7 : x7_1 < a0_0
   ·rw [if_pos c7] at H
    have c7b0 : decide (x7_1 < a0_0) = true := decide_eq_true c7
    clear c7
    by_cases c8 : 0 ≤ x7_1
    ·rw [if_pos c8] at H
     have c8b0 := eq_true c8
     have c8b1 : decide (0 ≤ x7_1) = true := decide_eq_true c8
     clear c8
     obtain ⟨ji9, hji9⟩ : ∃ j_ : Int, (shl .i64 1 x7_1) = j_ := ⟨_, rfl⟩
     replace H : ((qy.f k1 a0_0 l0_1 (Go.bits .or .i64 a1 (ji9))).bind fun t371 => (if t371 = t370 then (zZ.l0 k1 a1 t370 (Go.bits .or .i64 x6_1 (ji9)) (wrap64 (x7_1 + 1)) a0_0 l0_1) else (zZ.l0 k1 a1 t370 x6_1 (wrap64 (x7_1 + 1)) a0_0 l0_1))) = some r := by first | (rw [hji9] at H; exact H) | (simp only [hji9] at H ⊢; exact H)
     have hji9_ : (IntKind.i64.wrap (1 * 2 ^ min x7_1.toNat 64)) = ji9 := hji9
     have hji9z : x7_1 ≤ 64 → (IntKind.i64.wrap (1 * 2 ^ x7_1.toNat)) = ji9 := vB hji9
     have hji9u : (IntKind.i64.wrap (2 ^ min x7_1.toNat 64)) = ji9 := by have h_ := hji9_; rw [Int.one_mul] at h_; exact h_
     have hji9v : x7_1 ≤ 64 → (IntKind.i64.wrap (2 ^ x7_1.toNat)) = ji9 := fun hle_ => by have h_ := hji9z hle_; rw [Int.one_mul] at h_; exact h_
     have hji9y : (wrap64 (1 * 2 ^ min x7_1.toNat 64)) = ji9 := (zi _).symm.trans hji9_
     have hji9x : x7_1 ≤ 64 → (wrap64 (1 * 2 ^ x7_1.toNat)) = ji9 := fun h_ => (zi _).symm.trans (hji9z h_)
     replace H := Option.bind_eq_some_iff.mp H
     obtain ⟨t371, A100, H⟩ := H
     replace H : (if t371 = t370 then (zZ.l0 k1 a1 t370 (Go.bits .or .i64 x6_1 (ji9)) (wrap64 (x7_1 + 1)) a0_0 l0_1) else (zZ.l0 k1 a1 t370 x6_1 (wrap64 (x7_1 + 1)) a0_0 l0_1)) = some r := H
     have A10 := Aside0.mk A100
     clear A100
     by_cases c11 : t371 = t370
     ·rw [if_pos c11] at H
      have c11b0 : (t371 == t370) = true := beq_iff_eq.mpr c11
      have c11b1 : (t371 != t370) = false := bne_eq_false_iff_eq.mpr c11
      clear c11
      have c12b0 := eq_true (of_decide_eq_true sqA : 0 ≤ x7_1)
      have H' := Aside0.mk H
      clear H
      have hcz14_0 : wr.cell? ⟨gb369, 0, none⟩ = some (.int .i64 a0_0) := (za BK369.out 0).trans rfl
      have hcz14_1 : wr.cell? ⟨gb369, 1, none⟩ = some (.slice A0_1 l0_1.length c0_1) := (za BK369.out 1).trans rfl
      have hfz14_0 := zb BK369.out 0
      have hfz14_1 := zb BK369.out 1
      try go_wp2
      have n0_ := Aside0.mk (jj BK369.out)
      have n1_ := Aside0.mk (qg HB.out)
      clear BK369
      clear HB
      have BK369 := n0_
      have HB := n1_
      clear n0_ n1_
      refine jW (n := 8) (S := fun w' => w'.cell? ⟨gb369, 0, none⟩ = some (.int .i64 a0_0) ∧ w'.cell? ⟨gb369, 1, none⟩ = some (.slice A0_1 l0_1.length c0_1)) (ds := []) #[false, false, false, false, false, false, false, false] (by kernel_rfl) rfl rfl ⟨(za BK369.out 0).trans rfl, (za BK369.out 1).trans rfl⟩ (fun hHeld => ?_); refine ja zZ.JH zZ.Zz (fun HT_ HW_ => ?_)
      generalize wr.drew = w15 at BK369 HB hHeld ⊢
      refine zO (i := 1) (N := some 18) (v := ?_) (a' := ?_) #[false, true, false, false, false, false, false, false] rfl rfl (zC HT_.out (by kernel_rfl)) (fun _ _ _ h => h) (Or.inl ⟨by rfl, ?_⟩) ?_ ?_
      rotate_left
      ·intro w'
       go_simp
       with_reducible rfl
      rotate_left
      ·simp only [Act.put, List.setIfInBounds_toArray, List.set_cons_zero, List.set_cons_succ, zi, zj]
       rfl
      refine zO (i := 2) (N := some 19) (v := ?_) (a' := ?_) #[false, true, true, false, false, false, false, false] rfl rfl (zC HT_.out (by kernel_rfl)) (fun _ _ _ h => h) (Or.inl ⟨by rfl, ?_⟩) ?_ ?_
      rotate_left
      ·intro w'
       go_simp
       with_reducible rfl
      rotate_left
      ·simp only [Act.put, List.setIfInBounds_toArray, List.set_cons_zero, List.set_cons_succ, zi, zj]
       rfl
      refine zO (i := 3) (N := some 20) (v := ?_) (a' := ?_) #[false, true, true, true, false, false, false, false] rfl rfl (zC HT_.out (by kernel_rfl)) (fun _ _ _ h => h) (Or.inl ⟨by rfl, ?_⟩) ?_ ?_
      rotate_left
      ·intro w'
       go_simp
       with_reducible rfl
      rotate_left
      ·simp only [Act.put, List.setIfInBounds_toArray, List.set_cons_zero, List.set_cons_succ, zi, zj]
       rfl
      refine zO (i := 4) (N := some 21) (v := ?_) (a' := ?_) #[false, true, true, true, true, false, false, false] rfl rfl (zC HT_.out (by kernel_rfl)) (fun _ _ _ h => h) (Or.inl ⟨by rfl, ?_⟩) ?_ ?_
      rotate_left
      ·intro w'
       go_simp
       with_reducible rfl
      rotate_left
      ·simp only [Act.put, List.setIfInBounds_toArray, List.set_cons_zero, List.set_cons_succ, zi, zj]
       rfl
      refine zO (i := 6) (N := some 23) (v := ?_) (a' := ?_) #[false, true, true, true, true, false, true, false] rfl rfl (zC HT_.out (by kernel_rfl)) (fun _ _ _ h => h) (Or.inl ⟨by rfl, ?_⟩) ?_ ?_
      rotate_left
      ·intro w'
       go_simp
       with_reducible rfl
      rotate_left
      ·simp only [Act.put, List.setIfInBounds_toArray, List.set_cons_zero, List.set_cons_succ, zi, zj]
       rfl
      refine jD (i := 0) (N := some 17) (v := ?_) (a' := ?_) #[true, true, true, true, true, false, true, false] rfl rfl (qT HT_.out HW_.out (by kernel_rfl)) (fun _ _ _ h => h) (Or.inl ⟨by rfl, ?_⟩) hHeld ?_ ?_
      rotate_left
      ·rintro w' ⟨s0, s1⟩
       go_simp
       with_reducible rfl
      rotate_left
      ·simp only [Act.put, List.setIfInBounds_toArray, List.set_cons_zero, List.set_cons_succ, zi, zj]
       rfl
      refine yT (i := 5) (N := some 22) #[true, true, true, true, true, true, true, false] rfl rfl (j7 HT_.out (by kernel_rfl)) (by decide) (fun K hK => ?_)
      refine yE Tryz.func73 (by kernel_rfl) rfl #[.agg #[.int .i64 a0_0, .slice A0_1 l0_1.length c0_1], .int .i64 (Go.bits .or .i64 a1 (ji9))] (by rfl) rfl rfl (by (try simp only [List.map_toArray, List.map_cons, List.map_nil]); first | done | (simp only [hji9]; rfl) | rfl | (simp only [List.length_drop, List.length_take]; rfl)) ?_
      with_reducible refine (qy.calls k1 a0_0 _ _ l0_1 (Go.bits .or .i64 a1 (ji9)) t371 _ ?side1 ?side2 A10.out).mono ?_
      (case side1 => exact sqC (Kd.zt HR0_1.out HB.out))
      (case side2 => exact HC0_1.out)
      rintro e w16 ⟨rfl, hb⟩
      refine ⟨_, rfl, ?_⟩
      have n0_ := Aside0.mk (zd (g := gb369) (o := .cells #[.int .i64 a0_0, .slice A0_1 l0_1.length c0_1] 24 (0, 0)) (sqK BK369.out) hb)
      have n1_ := Aside0.mk (zc sqB hb)
      clear BK369
      clear HB
      have BK369 := n0_
      have HB := n1_
      clear n0_ n1_
      (try clear hb)
      (try clear hb2)
      (try clear hk)
      (try clear hi)
      refine hK.out _ _ ⟨(za BK369.out 0).trans rfl, (za BK369.out 1).trans rfl⟩ (fun hHeld => ?_)
      clear hK K
      refine vG (a' := ?_) ?_ ?_
      rotate_left
      ·show Act.put _ (some 22) _ = _
       simp only [Act.put, List.setIfInBounds_toArray, List.set_cons_zero, List.set_cons_succ, zi, zj]
       rfl
      refine zO (i := 7) (N := some 24) (v := ?_) (a' := ?_) #[true, true, true, true, true, true, true, true] rfl rfl (zC HT_.out (by kernel_rfl)) (fun _ _ _ h => h) (Or.inl ⟨by rfl, ?_⟩) ?_ ?_
      rotate_left
      ·intro w'
       go_simp
       with_reducible rfl
      rotate_left
      ·simp only [Act.put, List.setIfInBounds_toArray, List.set_cons_zero, List.set_cons_succ, zi, zj]
       rfl
      refine vF (jK HT_.out (by kernel_rfl)) ?_
      try go_wp2
      go_roundg k1
      case measure => have := HK1.out; omega
      case rel => exact ⟨(Go.bits .or .i64 x6_1 (ji9)), (wrap64 (x7_1 + 1)), (by first | rfl | (simp; done) | (simp only [← hji9] <;> (first | rfl | simp)) | (simp [*]; done)), (sqD), H', ⟨by have := HK1.out; omega⟩, ⟨sqK BK369.out⟩, ⟨sqB⟩⟩
     ·rw [if_neg c11] at H
      have c11b0 : (t371 == t370) = false := beq_eq_false_iff_ne.mpr c11
      have c11b1 : (t371 != t370) = true := bne_iff_ne.mpr c11
      have H' := Aside0.mk H
      clear H
      have hcz17_0 : wr.cell? ⟨gb369, 0, none⟩ = some (.int .i64 a0_0) := (za BK369.out 0).trans rfl
      have hcz17_1 : wr.cell? ⟨gb369, 1, none⟩ = some (.slice A0_1 l0_1.length c0_1) := (za BK369.out 1).trans rfl
      have hfz17_0 := zb BK369.out 0
      have hfz17_1 := zb BK369.out 1
      try go_wp2
      have n0_ := Aside0.mk (jj BK369.out)
      have n1_ := Aside0.mk (qg HB.out)
      clear BK369
      clear HB
      have BK369 := n0_
      have HB := n1_
      clear n0_ n1_
      refine jW (n := 8) (S := fun w' => w'.cell? ⟨gb369, 0, none⟩ = some (.int .i64 a0_0) ∧ w'.cell? ⟨gb369, 1, none⟩ = some (.slice A0_1 l0_1.length c0_1)) (ds := []) #[false, false, false, false, false, false, false, false] (by kernel_rfl) rfl rfl ⟨(za BK369.out 0).trans rfl, (za BK369.out 1).trans rfl⟩ (fun hHeld => ?_); refine ja zZ.JH zZ.Zz (fun HT_ HW_ => ?_)
      generalize wr.drew = w18 at BK369 HB hHeld ⊢
      refine zO (i := 1) (N := some 18) (v := ?_) (a' := ?_) #[false, true, false, false, false, false, false, false] rfl rfl (zC HT_.out (by kernel_rfl)) (fun _ _ _ h => h) (Or.inl ⟨by rfl, ?_⟩) ?_ ?_
      rotate_left
      ·intro w'
       go_simp
       with_reducible rfl
      rotate_left
      ·simp only [Act.put, List.setIfInBounds_toArray, List.set_cons_zero, List.set_cons_succ, zi, zj]
       rfl
      refine zO (i := 2) (N := some 19) (v := ?_) (a' := ?_) #[false, true, true, false, false, false, false, false] rfl rfl (zC HT_.out (by kernel_rfl)) (fun _ _ _ h => h) (Or.inl ⟨by rfl, ?_⟩) ?_ ?_
      rotate_left
      ·intro w'
       go_simp
       with_reducible rfl
      rotate_left
      ·simp only [Act.put, List.setIfInBounds_toArray, List.set_cons_zero, List.set_cons_succ, zi, zj]
       rfl
      refine zO (i := 3) (N := some 20) (v := ?_) (a' := ?_) #[false, true, true, true, false, false, false, false] rfl rfl (zC HT_.out (by kernel_rfl)) (fun _ _ _ h => h) (Or.inl ⟨by rfl, ?_⟩) ?_ ?_
      rotate_left
      ·intro w'
       go_simp
       with_reducible rfl
      rotate_left
      ·simp only [Act.put, List.setIfInBounds_toArray, List.set_cons_zero, List.set_cons_succ, zi, zj]
       rfl
      refine zO (i := 4) (N := some 21) (v := ?_) (a' := ?_) #[false, true, true, true, true, false, false, false] rfl rfl (zC HT_.out (by kernel_rfl)) (fun _ _ _ h => h) (Or.inl ⟨by rfl, ?_⟩) ?_ ?_
      rotate_left
      ·intro w'
       go_simp
       with_reducible rfl
      rotate_left
      ·simp only [Act.put, List.setIfInBounds_toArray, List.set_cons_zero, List.set_cons_succ, zi, zj]
       rfl
      refine zO (i := 6) (N := some 23) (v := ?_) (a' := ?_) #[false, true, true, true, true, false, true, false] rfl rfl (zC HT_.out (by kernel_rfl)) (fun _ _ _ h => h) (Or.inl ⟨by rfl, ?_⟩) ?_ ?_
      rotate_left
      ·intro w'
       go_simp
       with_reducible rfl
      rotate_left
      ·simp only [Act.put, List.setIfInBounds_toArray, List.set_cons_zero, List.set_cons_succ, zi, zj]
       rfl
      refine jD (i := 0) (N := some 17) (v := ?_) (a' := ?_) #[true, true, true, true, true, false, true, false] rfl rfl (qT HT_.out HW_.out (by kernel_rfl)) (fun _ _ _ h => h) (Or.inl ⟨by rfl, ?_⟩) hHeld ?_ ?_
      rotate_left
      ·rintro w' ⟨s0, s1⟩
       go_simp
       with_reducible rfl
      rotate_left
      ·simp only [Act.put, List.setIfInBounds_toArray, List.set_cons_zero, List.set_cons_succ, zi, zj]
       rfl
      refine yT (i := 5) (N := some 22) #[true, true, true, true, true, true, true, false] rfl rfl (j7 HT_.out (by kernel_rfl)) (by decide) (fun K hK => ?_)
      refine yE Tryz.func73 (by kernel_rfl) rfl #[.agg #[.int .i64 a0_0, .slice A0_1 l0_1.length c0_1], .int .i64 (Go.bits .or .i64 a1 (ji9))] (by rfl) rfl rfl (by (try simp only [List.map_toArray, List.map_cons, List.map_nil]); first | done | (simp only [hji9]; rfl) | rfl | (simp only [List.length_drop, List.length_take]; rfl)) ?_
      with_reducible refine (qy.calls k1 a0_0 _ _ l0_1 (Go.bits .or .i64 a1 (ji9)) t371 _ ?side1 ?side2 A10.out).mono ?_
      (case side1 => exact sqC (Kd.zt HR0_1.out HB.out))
      (case side2 => exact HC0_1.out)
      rintro e w19 ⟨rfl, hb⟩
      refine ⟨_, rfl, ?_⟩
      have n0_ := Aside0.mk (zd (g := gb369) (o := .cells #[.int .i64 a0_0, .slice A0_1 l0_1.length c0_1] 24 (0, 0)) (sqK BK369.out) hb)
      have n1_ := Aside0.mk (zc sqB hb)
      clear BK369
      clear HB
      have BK369 := n0_
      have HB := n1_
      clear n0_ n1_
      (try clear hb)
      (try clear hb2)
      (try clear hk)
      (try clear hi)
      refine hK.out _ _ ⟨(za BK369.out 0).trans rfl, (za BK369.out 1).trans rfl⟩ (fun hHeld => ?_)
      clear hK K
      refine vG (a' := ?_) ?_ ?_
      rotate_left
      ·show Act.put _ (some 22) _ = _
       simp only [Act.put, List.setIfInBounds_toArray, List.set_cons_zero, List.set_cons_succ, zi, zj]
       rfl
      refine zO (i := 7) (N := some 24) (v := ?_) (a' := ?_) #[true, true, true, true, true, true, true, true] rfl rfl (zC HT_.out (by kernel_rfl)) (fun _ _ _ h => h) (Or.inl ⟨by rfl, ?_⟩) ?_ ?_
      rotate_left
      ·intro w'
       go_simp
       with_reducible rfl
      rotate_left
      ·simp only [Act.put, List.setIfInBounds_toArray, List.set_cons_zero, List.set_cons_succ, zi, zj]
       rfl
      refine vF (jK HT_.out (by kernel_rfl)) ?_
      try go_wp2
      go_roundg k1
      case measure => have := HK1.out; omega
      case rel => exact ⟨(x6_1), (wrap64 (x7_1 + 1)), (sqD), (sqD), H', ⟨by have := HK1.out; omega⟩, ⟨sqK BK369.out⟩, ⟨sqB⟩⟩
    ·rw [if_neg c8] at H
     exact absurd H (by simp)
   ·rw [if_neg c7] at H
    have c7b0 : decide (x7_1 < a0_0) = false := decide_eq_false c7
    clear c7
    obtain rfl := Option.some.inj H
    have hcz20_0 : wr.cell? ⟨gb369, 0, none⟩ = some (.int .i64 a0_0) := (za BK369.out 0).trans rfl
    have hcz20_1 : wr.cell? ⟨gb369, 1, none⟩ = some (.slice A0_1 l0_1.length c0_1) := (za BK369.out 1).trans rfl
    have hfz20_0 := zb BK369.out 0
    have hfz20_1 := zb BK369.out 1
    go_wp2
    go_ret
    exact ⟨sqE, sqB⟩

end Go.Proofs.YteggmbhcnhbamaaGreat.F
end
section
namespace Go.Proofs.YteggmbhcnhbamaaGreat.F
open Go.RowKit Go.Proofs.YteggmbhcnhbamaaGreatW.PrintWords Go.Proofs.YteggmbhcnhbamaaGreatW.PrintLast Go.Proofs.YteggmbhcnhbamaaGreatW.PrintMore
attribute [local go_sem] jG jJ jZ jV jr jq jF jI   -- for this text's walks alone
set_option linter.unusedVariables false
set_option linter.unusedSimpArgs false

def je.f (k : Nat) (a0_0 : Int) (l0_1 : List Int) : Option (Int) := (qf.f k a0_0 l0_1).bind fun t390 => (if t390 = true then (if 0 < (l0_1.length : Int) then ((jh.f (rd l0_1 0)).bind fun t392 => (some t392)) else (none)) else (some (-1)))
theorem je.calls (k : Nat) (a0_0 : Int) (A0_1 : Option Addr) (c0_1 : Nat) (l0_1 : List Int) (r : Int) (w : World) (hr0_1 : Kd.C (Kd.int .i64) w A0_1 l0_1.length l0_1) (hc0_1 : l0_1.length ≤ c0_1) (h : je.f k a0_0 l0_1 = some r) :
  Calls Tryz.prog 59 #[.agg #[.int .i64 a0_0, .slice A0_1 l0_1.length c0_1]] w fun e w' => e = .returned (.int .i64 r) ∧ Below w.heap.size w w' := by
 have hu24 := Tryz.underlying24
 have HR0_1 := Aside0.mk hr0_1
 have HC0_1 := Aside0.mk hc0_1
 clear hr0_1 hc0_1
 have HB := Aside0.mk (Below.refl w.heap.size w)
 have H : ((qf.f k a0_0 l0_1).bind fun t390 => (if t390 = true then (if 0 < (l0_1.length : Int) then ((jh.f (rd l0_1 0)).bind fun t392 => (some t392)) else (none)) else (some (-1)))) = some r := h
 clear h
 replace H := Option.bind_eq_some_iff.mp H
 obtain ⟨t390, A20, H⟩ := H
 replace H : (if t390 = true then (if 0 < (l0_1.length : Int) then ((jh.f (rd l0_1 0)).bind fun t392 => (some t392)) else (none)) else (some (-1))) = some r := H
 have A2 := Aside0.mk A20
 clear A20
 by_cases c3 : t390 = true
 ·subst c3
  have H1 : (if 0 < (l0_1.length : Int) then ((jh.f (rd l0_1 0)).bind fun t392 => (some t392)) else (none)) = some r := by rw [if_pos rfl] at H; exact H
  clear H
  have H := H1
  clear H1
  by_cases c4 : 0 < (l0_1.length : Int)
  ·rw [if_pos c4] at H
   have c4b0 : decide (0 < (l0_1.length : Int)) = true := decide_eq_true c4
   have c4b1 : decide (0 < l0_1.length) = true := decide_eq_true (by omega)
   clear c4
   replace H := Option.bind_eq_some_iff.mp H
   obtain ⟨t392, A50, H⟩ := H
   replace H : (some t392) = some r := H
   have A5 := Aside0.mk A50
   clear A50
   obtain rfl := Option.some.inj H
   go_enter Tryz.func59, Tryz.ntmps59
   go_wp2_with (first | ((with_reducible refine zm (N := 1) rfl ?_); refine zq ?hg (N := 1) ?hd (cs := #[.int .i64 a0_0, .slice A0_1 l0_1.length c0_1]) (t := 24) ?hr ?_; (case hd => rfl); (case hg => rfl); (case hr => exact sqG); intro gb389 hg w6 hbox hb; have n0_ := Aside0.mk (zc sqB hb); have n1_ := Aside0.mk (hbox); have n2_ := Aside0.mk ((sqS hg : w.heap.size ≤ gb389)); have n3_ := Aside0.mk ((sqS hg : w.heap.size ≤ gb389)); clear HB; have HB := n0_; have BK389 := n1_; have GW389 := n2_; have GE389 := n3_; clear n0_ n1_ n2_ n3_; clear hb hbox hg; have hcz7_0 : w6.cell? ⟨gb389, 0, none⟩ = some (.int .i64 a0_0) := (za BK389.out 0).trans rfl; have hcz7_1 : w6.cell? ⟨gb389, 1, none⟩ = some (.slice A0_1 l0_1.length c0_1) := (za BK389.out 1).trans rfl; have hfz7_0 := zb BK389.out 0; have hfz7_1 := zb BK389.out 1) | ((with_reducible refine ze (f := 46) rfl ?_); refine zv (some 4) rfl rfl Tryz.func46 (by kernel_rfl) rfl #[.agg #[.int .i64 a0_0, .slice A0_1 l0_1.length c0_1]] rfl sqM ?_; (with_reducible refine (qf.calls k a0_0 _ _ l0_1 true _ ?side1 ?side2 A2.out).mono ?_); (case side1 => exact sqC (Kd.zt HR0_1.out HB.out)); (case side2 => exact HC0_1.out); rintro e w8 ⟨rfl, hb⟩; refine ⟨_, rfl, ?_⟩; have n0_ := Aside0.mk (zd (g := gb389) (o := .cells #[.int .i64 a0_0, .slice A0_1 l0_1.length c0_1] 24 (0, 0)) (sqK BK389.out) hb); have n1_ := Aside0.mk (zc sqB hb); clear BK389; clear HB; have BK389 := n0_; have HB := n1_; clear n0_ n1_; (try clear hb); (try clear hb2); (try clear hk); (try clear hi); have hcz9_0 : w8.cell? ⟨gb389, 0, none⟩ = some (.int .i64 a0_0) := (za BK389.out 0).trans rfl; have hcz9_1 : w8.cell? ⟨gb389, 1, none⟩ = some (.slice A0_1 l0_1.length c0_1) := (za BK389.out 1).trans rfl; have hfz9_0 := zb BK389.out 0; have hfz9_1 := zb BK389.out 1; have p391 : 0 ≤ (0 : Int) := (by omega); have q391 : 0 < (l0_1.length : Int) := of_decide_eq_true sqA; obtain ⟨ad391, e391, hx391_0⟩ := Kd.zT HR0_1.out 0 p391 q391; cases e391; have qi391 : (0 < l0_1.length) = True := eq_true (by omega); (try rw [show ((0 : Int)).toNat = 0 from rfl] at hx391_0); (try rw [Addr.add_zero'] at hx391_0); replace hx391_0 := (HB.out.cell (World.block_lt_of_cell? w _ hx391_0)).trans hx391_0; replace p391 := eq_true p391; replace q391 := eq_true q391) | ((with_reducible refine ze (f := 74) rfl ?_); refine zv (some 10) rfl rfl Tryz.func74 (by kernel_rfl) rfl #[.int .i64 (rd l0_1 0)] rfl sqM ?_; (with_reducible refine (jh.calls (rd l0_1 0) t392 _ A5.out).mono ?_); rintro e w' ⟨rfl, ⟨nd, rfl⟩⟩; refine ⟨_, rfl, ?_⟩))
   go_ret
   exact ⟨sqE, sqB⟩
  ·rw [if_neg c4] at H
   exact absurd H (by simp)
 ·replace c3 := Bool.eq_false_iff.mpr c3
  subst c3
  have H1 : (some (-1)) = some r := by rw [if_neg (show ¬ (false = true) by decide)] at H; exact H
  clear H
  have H := H1
  clear H1
  obtain rfl := Option.some.inj H
  go_enter Tryz.func59, Tryz.ntmps59
  go_wp2_with (first | ((with_reducible refine zm (N := 1) rfl ?_); refine zq ?hg (N := 1) ?hd (cs := #[.int .i64 a0_0, .slice A0_1 l0_1.length c0_1]) (t := 24) ?hr ?_; (case hd => rfl); (case hg => rfl); (case hr => exact sqG); intro gb389 hg w10 hbox hb; have n0_ := Aside0.mk (zc sqB hb); have n1_ := Aside0.mk (hbox); have n2_ := Aside0.mk ((sqS hg : w.heap.size ≤ gb389)); have n3_ := Aside0.mk ((sqS hg : w.heap.size ≤ gb389)); clear HB; have HB := n0_; have BK389 := n1_; have GW389 := n2_; have GE389 := n3_; clear n0_ n1_ n2_ n3_; clear hb hbox hg; have hcz11_0 : w10.cell? ⟨gb389, 0, none⟩ = some (.int .i64 a0_0) := (za BK389.out 0).trans rfl; have hcz11_1 : w10.cell? ⟨gb389, 1, none⟩ = some (.slice A0_1 l0_1.length c0_1) := (za BK389.out 1).trans rfl; have hfz11_0 := zb BK389.out 0; have hfz11_1 := zb BK389.out 1) | ((with_reducible refine ze (f := 46) rfl ?_); refine zv (some 4) rfl rfl Tryz.func46 (by kernel_rfl) rfl #[.agg #[.int .i64 a0_0, .slice A0_1 l0_1.length c0_1]] rfl sqM ?_; (with_reducible refine (qf.calls k a0_0 _ _ l0_1 false _ ?side1 ?side2 A2.out).mono ?_); (case side1 => exact sqC (Kd.zt HR0_1.out HB.out)); (case side2 => exact HC0_1.out); rintro e w12 ⟨rfl, hb⟩; refine ⟨_, rfl, ?_⟩; have n0_ := Aside0.mk (zd (g := gb389) (o := .cells #[.int .i64 a0_0, .slice A0_1 l0_1.length c0_1] 24 (0, 0)) (sqK BK389.out) hb); have n1_ := Aside0.mk (zc sqB hb); clear BK389; clear HB; have BK389 := n0_; have HB := n1_; clear n0_ n1_; (try clear hb); (try clear hb2); (try clear hk); (try clear hi)))
  go_ret
  exact ⟨sqE, sqB⟩

end Go.Proofs.YteggmbhcnhbamaaGreat.F
end
section
namespace Go.Proofs.YteggmbhcnhbamaaGreat.F
open Go.RowKit Go.Proofs.YteggmbhcnhbamaaGreatW.PrintWords Go.Proofs.YteggmbhcnhbamaaGreatW.PrintLast Go.Proofs.YteggmbhcnhbamaaGreatW.PrintMore
set_option linter.unusedSimpArgs false
set_option linter.unusedVariables false
def vP (q : Int → Option Bool) : Nat → Int → List Int → Int → Option (List Int)
  | 0, _, _, _ => none
  | k + 1, n, out, s => (q4.f n).bind fun t => if s ≤ t then ((q s).bind fun b => if b = true then (if out.length < 17592186044416 then vP q k n (out ++ [s]) (wrap64 (s + 1)) else none) else vP q k n out (wrap64 (s + 1))) else some out
theorem vM (q : Int → Option Bool) (g : Nat) (lb : Array Value) (eg : ∀ args w, (callFunc g args).run Tryz.prog w = .ok (.enter g args) w) (k : Nat) (n : Int) (r : List Int) (w : World) (hp : ZH g lb q w) (h : vP q k n [] 0 = some r) :
    Calls Tryz.prog 53 #[.int .i64 n, .func (.func g) #[] lb] w fun e w' => ∃ v0_ : Value, e = .returned (v0_) ∧ Kd.R (Kd.int .i64) 3 w' w.heap.size (fun _ => True) v0_ r ∧ Below w.heap.size w w' := by
  have HB := Aside0.mk (Below.refl w.heap.size w)
  have HP := Aside0.mk hp
  clear hp
  obtain ⟨yL, hyL⟩ : ∃ y_ : List Int, y_ = (([] : List Int)) := ⟨_, rfl⟩
  have H' := Aside0.mk (show vP q k n yL 0 = some r by rw [hyL]; exact h)
  clear h
  have NyL := Aside0.mk hyL
  clear hyL
  go_enter Tryz.func53, Tryz.ntmps53
  go_wp2_with (first | ((with_reducible refine zm (N := 7) rfl ?_); refine Kd.jy (Kd.int .i64) _ 3 ?hg (N := 7) ?hd (xs := ([] : List Int)) (inner := []) (ok := fun _ => True) (okp := fun _ => True) ?hr ?hp (fun _ hk => hk) trivial (Below.refl _ _) (Nat.le_refl _) (by simp) ?_; (case hd => rfl); (case hg => rfl); (case hr => exact sqG); (case hp => exact (qK.none _ _)); intro vL wL hoL hb hg_ hnew_; clear hg_ hnew_; (first | rw [← NyL.out] at hoL | (simp only [Int.reduceToNat] at hoL; rw [← NyL.out] at hoL)); have n0_ := Aside0.mk (Kd.zD hoL (zh sqB)); have n1_ := Aside0.mk (zc sqB hb); clear HB; have HOL := n0_; have HB := n1_; clear n0_ n1_; clear hb hoL))
  go_loopg [5, 6] k (fun kq v5 v6 w' => ∃ (out : List Int) (s : Int), v6 = .int .i64 s ∧ Aside0 (vP q kq n out s = some r) ∧ Aside0 (kq ≤ k) ∧ Aside0 (Kd.R (Kd.int .i64) 3 w' w.heap.size (fun _ => True) v5 out) ∧ Aside0 (Below w.heap.size w w'))
  case atStart => exact ⟨yL, 0, rfl, H', ⟨Nat.le_refl _⟩, ⟨sqR HOL.out⟩, ⟨sqB⟩⟩
  case round =>
    clear H'
    obtain ⟨out, s, rfl, HA, HK1, HO, HB⟩ := hrel
    cases gk with
    | zero => exact absurd HA.out (by simp [vP])
    | succ k1 =>
      have H := HA.out
      clear HA
      simp only [vP] at H
      obtain ⟨t, ht, H⟩ := Option.bind_eq_some_iff.mp H
      have AT := Aside0.mk ht
      clear ht
      by_cases c1 : s ≤ t
      · rw [if_pos c1] at H
        obtain ⟨b, hb, H⟩ := Option.bind_eq_some_iff.mp H
        have AB := Aside0.mk hb
        clear hb
        have c1b0 : decide (s ≤ t) = true := decide_eq_true c1
        clear c1
        cases b with
        | true =>
          have H1 : (if out.length < 17592186044416 then vP q k1 n (out ++ [s]) (wrap64 (s + 1)) else none) = some r := by simpa using H
          clear H
          by_cases c2 : out.length < 17592186044416
          · rw [if_pos c2] at H1
            have HLen := Aside0.mk c2
            clear c2
            obtain ⟨yA, hyA⟩ : ∃ y_ : List Int, y_ = (out ++ [s]) := ⟨_, rfl⟩
            rw [← hyA] at H1
            have NyA := Aside0.mk hyA
            have H' := Aside0.mk H1
            clear H1 hyA
            go_wp2_with ((with_reducible refine ze (f := 20) rfl ?_); refine zv (some 10) rfl rfl Tryz.func20 (by kernel_rfl) rfl #[.int .i64 n] rfl (by (try simp only [List.map_toArray, List.map_cons, List.map_nil]); first | done | rfl) ?_; (with_reducible refine (q4.calls n t _ AT.out).mono ?_); rintro e w' ⟨rfl, ⟨nd, rfl⟩⟩; refine ⟨_, rfl, ?_⟩)
            refine (HP.out _ _ _ AB.out sqB).mono ?_
            rintro e w9 ⟨rfl, hb⟩
            have n0_ := Aside0.mk (zc (w := w) sqB hb)
            have n1_ := Aside0.mk (Kd.zx (sqR HO.out) hb)
            clear HB HO hb
            have HB := n0_
            have HO := n1_
            clear n0_ n1_
            go_wp2_with ((with_reducible refine qB (b := .append) (xs := #[.tmp 17, .tmp 19]) rfl ?_); at_builtin; refine Kd.ji (Kd.int .i64) (w0 := w) w.heap.size rfl (.tmp 17) (.tmp 19) 22 3 (.int .i64 0) 8 rfl Tryz.underlying22 jH rfl (by decide) (by omega) u5 out s [.int .i64 s] (fun _ => True) (fun _ => False) rfl rfl ?aP (fun _ hk => hk.elim) ?aF ?aO ?aB ?aS ?aL ?_; (case aP => exact rfl); (case aB => exact sqB); (case aF => exact (fun _ _ => trivial)); (case aO => exact (sqR HO.out)); (case aS => exact (zh sqB)); (case aL => have := HLen.out; omega); intro v161 w8 ho hb hg hat; rw [← NyA.out] at ho; have n0_ := Aside0.mk (hb); have n1_ := Aside0.mk (ho); clear HB; clear HO; have HB := n0_; have HOA := n1_; clear n0_ n1_; clear ho hb hg hat)
            go_roundg k1
            case measure => have := HK1.out; omega
            case rel => exact ⟨yA, wrap64 (s + 1), rfl, H', ⟨by have := HK1.out; omega⟩, ⟨sqR HOA.out⟩, ⟨sqB⟩⟩
          · rw [if_neg c2] at H1
            exact absurd H1 (by simp)
        | false =>
          have H' := Aside0.mk (show vP q k1 n out (wrap64 (s + 1)) = some r by simpa using H)
          clear H
          go_wp2_with ((with_reducible refine ze (f := 20) rfl ?_); refine zv (some 10) rfl rfl Tryz.func20 (by kernel_rfl) rfl #[.int .i64 n] rfl (by (try simp only [List.map_toArray, List.map_cons, List.map_nil]); first | done | rfl) ?_; (with_reducible refine (q4.calls n t _ AT.out).mono ?_); rintro e w' ⟨rfl, ⟨nd, rfl⟩⟩; refine ⟨_, rfl, ?_⟩)
          refine (HP.out _ _ _ AB.out sqB).mono ?_
          rintro e w9 ⟨rfl, hb⟩
          have n0_ := Aside0.mk (zc (w := w) sqB hb)
          have n1_ := Aside0.mk (Kd.zx (sqR HO.out) hb)
          clear HB HO hb
          have HB := n0_
          have HO := n1_
          clear n0_ n1_
          go_wp2
          go_roundg k1
          case measure => have := HK1.out; omega
          case rel => exact ⟨out, wrap64 (s + 1), rfl, H', ⟨by have := HK1.out; omega⟩, HO, HB⟩
      · rw [if_neg c1] at H
        have c1b0 : decide (s ≤ t) = false := decide_eq_false c1
        clear c1
        obtain rfl := Option.some.inj H
        go_wp2_with ((with_reducible refine ze (f := 20) rfl ?_); refine zv (some 10) rfl rfl Tryz.func20 (by kernel_rfl) rfl #[.int .i64 n] rfl (by (try simp only [List.map_toArray, List.map_cons, List.map_nil]); first | done | rfl) ?_; (with_reducible refine (q4.calls n t _ AT.out).mono ?_); rintro e w' ⟨rfl, ⟨nd, rfl⟩⟩; refine ⟨_, rfl, ?_⟩)
        go_ret
        exact ⟨_, rfl, sqR HO.out, sqB⟩
end Go.Proofs.YteggmbhcnhbamaaGreat.F
end
section
namespace Go.Proofs.YteggmbhcnhbamaaGreat.F
open Go.RowKit Go.Proofs.YteggmbhcnhbamaaGreatW.PrintWords Go.Proofs.YteggmbhcnhbamaaGreatW.PrintLast Go.Proofs.YteggmbhcnhbamaaGreatW.PrintMore
set_option linter.unusedSimpArgs false
set_option linter.unusedVariables false
def qQ.q (k : Nat) (n : Int) (l : List Int) (s : Int) : Option Bool := (zZ.f k n l s).bind fun t => some (t == s)
def qQ.f (k : Nat) (a0_0 : Int) (l0_1 : List Int) : Option (List Int) := vP (qQ.q k a0_0 l0_1) k a0_0 [] 0
theorem qQ.pred (k : Nat) (l : List Int) (n : Int) (A : Option Addr) (c gm : Nat) (w : World) (hm : w.heap[gm]? = some (.cells #[.int .i64 n, .slice A l.length c] 24 (0, 0)))
    (hr : Kd.C (Kd.int .i64) w A l.length l) (hc : l.length ≤ c) : ZH 65 #[.pointer (some ⟨gm, 0, none⟩)] (qQ.q k n l) w := by
  intro W x r hq hb
  unfold qQ.q at hq
  obtain ⟨t, ht, hq⟩ := Option.bind_eq_some_iff.mp hq
  obtain rfl := Option.some.inj hq
  have hc0 : W.cell? ⟨gm, 0, none⟩ = some (.int .i64 n) := (za (zd hm hb) 0).trans rfl
  have hc1 : W.cell? ⟨gm, 1, none⟩ = some (.slice A l.length c) := (za (zd hm hb) 1).trans rfl
  have HR := Aside0.mk (Kd.zt hr hb)
  have HC := Aside0.mk hc
  have H := Aside0.mk ht
  have hu := Tryz.underlying24
  clear hq ht hm hr hc hb
  go_enter Tryz.func65, Tryz.ntmps65
  go_wp2_with (go_at_call 66; (try simp only [zi, zj]); (with_reducible refine (zZ.calls k n _ _ l x t _ HR.out HC.out H.out).mono ?_); rintro e w' ⟨rfl, hb⟩)
  go_ret
  exact ⟨by first | rfl | simp, by first | exact hb | (obtain ⟨nd, rfl⟩ := hb; exact qb (Below.refl _ _) nd)⟩
theorem qQ.calls (k : Nat) (a0_0 : Int) (A0_1 : Option Addr) (c0_1 : Nat) (l0_1 : List Int) (r : List Int) (w : World) (hr0_1 : Kd.C (Kd.int .i64) w A0_1 l0_1.length l0_1) (hc0_1 : l0_1.length ≤ c0_1) (h : qQ.f k a0_0 l0_1 = some r) :
    Calls Tryz.prog 47 #[.agg #[.int .i64 a0_0, .slice A0_1 l0_1.length c0_1]] w fun e w' => ∃ v0_ : Value, e = .returned (v0_) ∧ Kd.R (Kd.int .i64) 3 w' w.heap.size (fun _ => True) v0_ r ∧ Below w.heap.size w w' := by
  have hum := Tryz.underlying24
  have HR := Aside0.mk hr0_1
  have HC := Aside0.mk hc0_1
  have H := Aside0.mk h
  clear hr0_1 hc0_1 h
  go_enter Tryz.func47, Tryz.ntmps47
  go_wp2_with ((with_reducible refine zm (N := 1) rfl ?_); refine zq ?hg (N := 1) ?hd (cs := #[.int .i64 a0_0, .slice A0_1 l0_1.length c0_1]) (t := 24) ?hr ?_; (case hd => rfl); (case hg => rfl); (case hr => exact sqG); intro gm hg w4 hbox hb; have HB1 := Aside0.mk hb; have BKm := Aside0.mk hbox; have hcz0 : w4.cell? ⟨gm, 0, none⟩ = some (.int .i64 a0_0) := (za BKm.out 0).trans rfl; have hcz1 : w4.cell? ⟨gm, 1, none⟩ = some (.slice A0_1 l0_1.length c0_1) := (za BKm.out 1).trans rfl; clear hb hbox hg)
  refine (vM (qQ.q k a0_0 l0_1) _ _ (enters_of Tryz.func65 (by kernel_rfl) rfl) k a0_0 r _ (qQ.pred k l0_1 a0_0 _ c0_1 gm _ BKm.out (Kd.zt HR.out HB1.out) HC.out) H.out).mono ?_
  rintro e w9 ⟨v, rfl, ho, hb⟩
  have HO := Aside0.mk (Kd.zD ho (zh HB1.out))
  have HB := Aside0.mk (zc HB1.out hb)
  clear ho hb hcz0 hcz1
  go_wp2
  go_ret
  exact ⟨_, rfl, HO.out, HB.out⟩
end Go.Proofs.YteggmbhcnhbamaaGreat.F
end
section
namespace Go.Proofs.YteggmbhcnhbamaaGreat.F
open Go.RowKit Go.Proofs.YteggmbhcnhbamaaGreatW.PrintWords Go.Proofs.YteggmbhcnhbamaaGreatW.PrintLast Go.Proofs.YteggmbhcnhbamaaGreatW.PrintMore
attribute [local go_sem] jG jJ jZ jV jr jq jF jI   -- for this text's walks alone
set_option linter.unusedVariables false
set_option linter.unusedSimpArgs false

def jd.f (k : Nat) (a0_0 : Int) (l0_1 : List Int) : Option (List Int) := (qf.f k a0_0 l0_1).bind fun t373 => (if t373 = true then ((qQ.f k a0_0 l0_1).bind fun t374 => (some t374)) else (some ([] : List Int)))
theorem jd.calls (k : Nat) (a0_0 : Int) (A0_1 : Option Addr) (c0_1 : Nat) (l0_1 : List Int) (r : List Int) (w : World) (hr0_1 : Kd.C (Kd.int .i64) w A0_1 l0_1.length l0_1) (hc0_1 : l0_1.length ≤ c0_1) (h : jd.f k a0_0 l0_1 = some r) :
  Calls Tryz.prog 24 #[.agg #[.int .i64 a0_0, .slice A0_1 l0_1.length c0_1]] w fun e w' => ∃ v0_ : Value, e = .returned (v0_) ∧ Kd.R (Kd.int .i64) 3 w' w.heap.size (fun _ => True) v0_ r ∧ Below w.heap.size w w' := by
 have hu24 := Tryz.underlying24
 have HR0_1 := Aside0.mk hr0_1
 have HC0_1 := Aside0.mk hc0_1
 clear hr0_1 hc0_1
 have HB := Aside0.mk (Below.refl w.heap.size w)
 have H : ((qf.f k a0_0 l0_1).bind fun t373 => (if t373 = true then ((qQ.f k a0_0 l0_1).bind fun t374 => (some t374)) else (some ([] : List Int)))) = some r := h
 clear h
 replace H := Option.bind_eq_some_iff.mp H
 obtain ⟨t373, A20, H⟩ := H
 replace H : (if t373 = true then ((qQ.f k a0_0 l0_1).bind fun t374 => (some t374)) else (some ([] : List Int))) = some r := H
 have A2 := Aside0.mk A20
 clear A20
 by_cases c3 : t373 = true
 ·subst c3
  have H1 : ((qQ.f k a0_0 l0_1).bind fun t374 => (some t374)) = some r := by rw [if_pos rfl] at H; exact H
  clear H
  have H := H1
  clear H1
  replace H := Option.bind_eq_some_iff.mp H
  obtain ⟨t374, A40, H⟩ := H
  replace H : (some t374) = some r := H
  have A4 := Aside0.mk A40
  clear A40
  obtain rfl := Option.some.inj H
  go_enter Tryz.func24, Tryz.ntmps24
  go_wp2_with (first | ((with_reducible refine zm (N := 1) rfl ?_); refine zq ?hg (N := 1) ?hd (cs := #[.int .i64 a0_0, .slice A0_1 l0_1.length c0_1]) (t := 24) ?hr ?_; (case hd => rfl); (case hg => rfl); (case hr => exact sqG); intro gb372 hg w5 hbox hb; have n0_ := Aside0.mk (zc sqB hb); have n1_ := Aside0.mk (hbox); have n2_ := Aside0.mk ((sqS hg : w.heap.size ≤ gb372)); have n3_ := Aside0.mk ((sqS hg : w.heap.size ≤ gb372)); clear HB; have HB := n0_; have BK372 := n1_; have GW372 := n2_; have GE372 := n3_; clear n0_ n1_ n2_ n3_; clear hb hbox hg; have hcz6_0 : w5.cell? ⟨gb372, 0, none⟩ = some (.int .i64 a0_0) := (za BK372.out 0).trans rfl; have hcz6_1 : w5.cell? ⟨gb372, 1, none⟩ = some (.slice A0_1 l0_1.length c0_1) := (za BK372.out 1).trans rfl; have hfz6_0 := zb BK372.out 0; have hfz6_1 := zb BK372.out 1) | ((with_reducible refine ze (f := 46) rfl ?_); refine zv (some 4) rfl rfl Tryz.func46 (by kernel_rfl) rfl #[.agg #[.int .i64 a0_0, .slice A0_1 l0_1.length c0_1]] rfl sqM ?_; (with_reducible refine (qf.calls k a0_0 _ _ l0_1 true _ ?side1 ?side2 A2.out).mono ?_); (case side1 => exact sqC (Kd.zt HR0_1.out HB.out)); (case side2 => exact HC0_1.out); rintro e w7 ⟨rfl, hb⟩; refine ⟨_, rfl, ?_⟩; have n0_ := Aside0.mk (zd (g := gb372) (o := .cells #[.int .i64 a0_0, .slice A0_1 l0_1.length c0_1] 24 (0, 0)) (sqK BK372.out) hb); have n1_ := Aside0.mk (zc sqB hb); clear BK372; clear HB; have BK372 := n0_; have HB := n1_; clear n0_ n1_; (try clear hb); (try clear hb2); (try clear hk); (try clear hi); have hcz8_0 : w7.cell? ⟨gb372, 0, none⟩ = some (.int .i64 a0_0) := (za BK372.out 0).trans rfl; have hcz8_1 : w7.cell? ⟨gb372, 1, none⟩ = some (.slice A0_1 l0_1.length c0_1) := (za BK372.out 1).trans rfl; have hfz8_0 := zb BK372.out 0; have hfz8_1 := zb BK372.out 1) | ((with_reducible refine ze (f := 47) rfl ?_); refine zv (some 7) rfl rfl Tryz.func47 (by kernel_rfl) rfl #[.agg #[.int .i64 a0_0, .slice A0_1 l0_1.length c0_1]] rfl sqM ?_; (with_reducible refine (qQ.calls k a0_0 _ _ l0_1 t374 _ ?side1 ?side2 A4.out).mono ?_); (case side1 => exact sqC (Kd.zt HR0_1.out HB.out)); (case side2 => exact HC0_1.out); rintro e w9 ⟨v375, rfl, ho0, hb⟩; refine ⟨_, rfl, ?_⟩; have n0_ := Aside0.mk (Kd.zD ho0 (zh sqB)); have n1_ := Aside0.mk (zd (g := gb372) (o := .cells #[.int .i64 a0_0, .slice A0_1 l0_1.length c0_1] 24 (0, 0)) (sqK BK372.out) hb); have n2_ := Aside0.mk (zc sqB hb); clear BK372; clear HB; have HO376 := n0_; have BK372 := n1_; have HB := n2_; clear n0_ n1_ n2_; (try clear hb); (try clear hb2); (try clear hk); (try clear hi); (try clear ho0)))
  go_ret
  exact ⟨_, sqE, sqR HO376.out, sqB⟩
 ·replace c3 := Bool.eq_false_iff.mpr c3
  subst c3
  have H1 : (some ([] : List Int)) = some r := by rw [if_neg (show ¬ (false = true) by decide)] at H; exact H
  clear H
  have H := H1
  clear H1
  obtain rfl := Option.some.inj H
  go_enter Tryz.func24, Tryz.ntmps24
  go_wp2_with (first | ((with_reducible refine zm (N := 1) rfl ?_); refine zq ?hg (N := 1) ?hd (cs := #[.int .i64 a0_0, .slice A0_1 l0_1.length c0_1]) (t := 24) ?hr ?_; (case hd => rfl); (case hg => rfl); (case hr => exact sqG); intro gb372 hg w10 hbox hb; have n0_ := Aside0.mk (zc sqB hb); have n1_ := Aside0.mk (hbox); have n2_ := Aside0.mk ((sqS hg : w.heap.size ≤ gb372)); have n3_ := Aside0.mk ((sqS hg : w.heap.size ≤ gb372)); clear HB; have HB := n0_; have BK372 := n1_; have GW372 := n2_; have GE372 := n3_; clear n0_ n1_ n2_ n3_; clear hb hbox hg; have hcz11_0 : w10.cell? ⟨gb372, 0, none⟩ = some (.int .i64 a0_0) := (za BK372.out 0).trans rfl; have hcz11_1 : w10.cell? ⟨gb372, 1, none⟩ = some (.slice A0_1 l0_1.length c0_1) := (za BK372.out 1).trans rfl; have hfz11_0 := zb BK372.out 0; have hfz11_1 := zb BK372.out 1) | ((with_reducible refine ze (f := 46) rfl ?_); refine zv (some 4) rfl rfl Tryz.func46 (by kernel_rfl) rfl #[.agg #[.int .i64 a0_0, .slice A0_1 l0_1.length c0_1]] rfl sqM ?_; (with_reducible refine (qf.calls k a0_0 _ _ l0_1 false _ ?side1 ?side2 A2.out).mono ?_); (case side1 => exact sqC (Kd.zt HR0_1.out HB.out)); (case side2 => exact HC0_1.out); rintro e w12 ⟨rfl, hb⟩; refine ⟨_, rfl, ?_⟩; have n0_ := Aside0.mk (zd (g := gb372) (o := .cells #[.int .i64 a0_0, .slice A0_1 l0_1.length c0_1] 24 (0, 0)) (sqK BK372.out) hb); have n1_ := Aside0.mk (zc sqB hb); clear BK372; clear HB; have BK372 := n0_; have HB := n1_; clear n0_ n1_; (try clear hb); (try clear hb2); (try clear hk); (try clear hi)))
  go_ret
  exact ⟨_, sqE, sqN, sqB⟩

def zX.l0 : Nat → Int → List Int → List Int → Int → Int → Int → List Int → Option (List Int)
 | 0, _, _, _, _, _, _, _ => none
 | k + 1, x1, x5, x10, x11, x12, x378000, x378001 => if x12 < x11 then (if 0 ≤ x12 then (if x12 < (x10.length : Int) then ((qy.f k x378000 x378001 (rd x10 x12)).bind fun t385 => (if t385 = x1 then (if x5.length < 17592186044416 then (zX.l0 k x1 (x5 ++ [rd x10 x12]) x10 x11 (wrap64 (x12 + 1)) x378000 x378001) else (none)) else (zX.l0 k x1 x5 x10 x11 (wrap64 (x12 + 1)) x378000 x378001))) else (none)) else (none)) else (some x5)
def zX.f (k : Nat) (a0_0 : Int) (l0_1 : List Int) (a1 : Int) : Option (List Int) := (jd.f k a0_0 l0_1).bind fun t381 => (zX.l0 k a1 (([] : List Int)) t381 (t381.length : Int) 0 a0_0 l0_1)
theorem zX.calls (k : Nat) (a0_0 : Int) (A0_1 : Option Addr) (c0_1 : Nat) (l0_1 : List Int) (a1 : Int) (r : List Int) (w : World) (hr0_1 : Kd.C (Kd.int .i64) w A0_1 l0_1.length l0_1) (hc0_1 : l0_1.length ≤ c0_1) (h : zX.f k a0_0 l0_1 a1 = some r) :
  Calls Tryz.prog 58 #[.agg #[.int .i64 a0_0, .slice A0_1 l0_1.length c0_1], .int .i64 a1] w fun e w' => ∃ v0_ : Value, e = .returned (v0_) ∧ Kd.R (Kd.int .i64) 3 w' w.heap.size (fun _ => True) v0_ r ∧ Below w.heap.size w w' := by
 have hu24 := Tryz.underlying24
 have HR0_1 := Aside0.mk hr0_1
 have HC0_1 := Aside0.mk hc0_1
 clear hr0_1 hc0_1
 have HB := Aside0.mk (Below.refl w.heap.size w)
 have H : ((jd.f k a0_0 l0_1).bind fun t381 => (zX.l0 k a1 (([] : List Int)) t381 (t381.length : Int) 0 a0_0 l0_1)) = some r := h
 clear h
 obtain ⟨y378, hy378⟩ : ∃ y_ : List Int, y_ = (([] : List Int)) := ⟨_, rfl⟩
 replace H : ((jd.f k a0_0 l0_1).bind fun t381 => (zX.l0 k a1 y378 t381 (t381.length : Int) 0 a0_0 l0_1)) = some r := by first | (rw [hy378]; with_reducible exact H) | (have H2_ := (Option.bind_some _ _).symm.trans H; rw [hy378]; with_reducible exact H2_) | (have H2_ := (Option.bind_some _ _).symm.trans H; with_reducible exact H2_) | with_reducible exact H | (rw [hy378]; exact H) | exact H
 have Ny378 := Aside0.mk hy378
 clear hy378
 replace H := Option.bind_eq_some_iff.mp H
 obtain ⟨t381, A30, H⟩ := H
 replace H : (zX.l0 k a1 y378 t381 (t381.length : Int) 0 a0_0 l0_1) = some r := H
 have A3 := Aside0.mk A30
 clear A30
 have H' := Aside0.mk H
 clear H
 go_enter Tryz.func58, Tryz.ntmps58
 go_wp2_with (first | ((with_reducible refine zm (N := 2) rfl ?_); refine zq ?hg (N := 2) ?hd (cs := #[.int .i64 a0_0, .slice A0_1 l0_1.length c0_1]) (t := 24) ?hr ?_; (case hd => rfl); (case hg => rfl); (case hr => exact sqG); intro gb377 hg w4 hbox hb; have n0_ := Aside0.mk (zc sqB hb); have n1_ := Aside0.mk (hbox); have n2_ := Aside0.mk ((sqS hg : w.heap.size ≤ gb377)); have n3_ := Aside0.mk ((sqS hg : w.heap.size ≤ gb377)); clear HB; have HB := n0_; have BK377 := n1_; have GW377 := n2_; have GE377 := n3_; clear n0_ n1_ n2_ n3_; clear hb hbox hg) | ((with_reducible refine zm (N := 8) rfl ?_); refine Kd.jy (Kd.int .i64) _ 3 ?hg (N := 8) ?hd (xs := ([] : List Int)) (inner := []) (ok := fun _ => True) (okp := fun _ => True) ?hr ?hp (fun _ hk => hk) trivial (Below.refl _ _) (Nat.le_refl _) (by simp) ?_; (case hd => rfl); (case hg => rfl); (case hr => exact sqG); (case hp => exact (qK.none _ _)); intro v379 w5 ho6 hb hg_ hnew_; clear hg_ hnew_; (first | rw [← Ny378.out] at ho6 | (simp only [Int.reduceToNat] at ho6; rw [← Ny378.out] at ho6)); have n0_ := Aside0.mk (Kd.zD ho6 (zh sqB)); have n1_ := Aside0.mk (zd (g := gb377) (o := .cells #[.int .i64 a0_0, .slice A0_1 l0_1.length c0_1] 24 (0, 0)) (sqK BK377.out) hb); have n2_ := Aside0.mk (zc sqB hb); clear BK377; clear HB; have HO380 := n0_; have BK377 := n1_; have HB := n2_; clear n0_ n1_ n2_; clear hb ho6; have hcz7_0 : w5.cell? ⟨gb377, 0, none⟩ = some (.int .i64 a0_0) := (za BK377.out 0).trans rfl; have hcz7_1 : w5.cell? ⟨gb377, 1, none⟩ = some (.slice A0_1 l0_1.length c0_1) := (za BK377.out 1).trans rfl; have hfz7_0 := zb BK377.out 0; have hfz7_1 := zb BK377.out 1) | ((with_reducible refine ze (f := 24) rfl ?_); refine zv (some 10) rfl rfl Tryz.func24 (by kernel_rfl) rfl #[.agg #[.int .i64 a0_0, .slice A0_1 l0_1.length c0_1]] rfl sqM ?_; (with_reducible refine (jd.calls k a0_0 _ _ l0_1 t381 _ ?side1 ?side2 A3.out).mono ?_); (case side1 => exact sqC (Kd.zt HR0_1.out HB.out)); (case side2 => exact HC0_1.out); rintro e w8 ⟨v382, rfl, ho0, hb⟩; refine ⟨_, rfl, ?_⟩; have n0_ := Aside0.mk (Kd.zw (sqR HO380.out) (Kd.zQ ho0) hb); have n1_ := Aside0.mk (Kd.zD (Kd.zP ho0 (Kd.qt (sqR HO380.out))) (zh sqB)); have n2_ := Aside0.mk (zd (g := gb377) (o := .cells #[.int .i64 a0_0, .slice A0_1 l0_1.length c0_1] 24 (0, 0)) (sqK BK377.out) hb); have n3_ := Aside0.mk (zc sqB hb); clear HO380; clear BK377; clear HB; have HO380 := n0_; have HO383 := n1_; have BK377 := n2_; have HB := n3_; clear n0_ n1_ n2_ n3_; (try clear hb); (try clear hb2); (try clear hk); (try clear hi); (try clear ho0); obtain ⟨Ao9, co9, eo9⟩ := Kd.zK HO383.out; subst eo9))
 go_loopg [5, 12] k (fun kq v5 v12 w' => ∃ (x5_1 : List Int) (x12_1 : Int), v12 = .int .i64 x12_1 ∧ Aside0 (zX.l0 kq a1 x5_1 t381 (t381.length : Int) x12_1 a0_0 l0_1 = some r) ∧ Aside0 (kq ≤ k) ∧ Aside0 (Kd.R (Kd.int .i64) 3 w' w.heap.size (fun k_ => some k_ ≠ ((.slice Ao9 t381.length co9) : Value).ownBlock) v5 x5_1) ∧ Aside0 (Kd.R (Kd.int .i64) 3 w' w.heap.size (fun k_ => some k_ ≠ (v5 : Value).ownBlock) (.slice Ao9 t381.length co9) t381) ∧ Aside0 (w'.heap[gb377]? = some (.cells #[.int .i64 a0_0, (.slice A0_1 l0_1.length c0_1)] 24 (0, 0))) ∧ Aside0 (Below w.heap.size w w'))
 case atStart => exact ⟨(y378), (0), (sqD), H', ⟨Nat.le_refl _⟩, ⟨by refine sqR ?_; exact Kd.zn HO380.out (fun _ hk => hk.2)⟩, ⟨by refine sqR ?_; exact Kd.zn HO383.out (fun _ hk => hk.2)⟩, ⟨sqK BK377.out⟩, ⟨sqB⟩⟩
 case round =>
  clear H'
  try clear c2
  try clear p2
  try clear c5
  try clear hcz7_0
  try clear hcz7_1
  try clear hfz7_0
  try clear hfz7_1
  obtain ⟨x5_1, x12_1, rfl, HA, HK1, HO_5, HO_10, BK377, HB⟩ := hrel
  cases gk with
  | zero => exact absurd HA.out (by simp [zX.l0])
  | succ k1 =>
   have H := HA.out
   clear HA
   simp only [zX.l0] at H
   by_cases c10 : x12_1 < (t381.length : Int)
   ·rw [if_pos c10] at H
    have c10b0 : decide (x12_1 < (t381.length : Int)) = true := decide_eq_true c10
    clear c10
    by_cases c11 : 0 ≤ x12_1
    ·rw [if_pos c11] at H
     have c11b0 : decide (0 ≤ x12_1) = true := decide_eq_true c11
     clear c11
     by_cases c12 : x12_1 < (t381.length : Int)
     ·rw [if_pos c12] at H
      have c12b0 : decide (x12_1 < (t381.length : Int)) = true := decide_eq_true c12
      clear c12
      replace H := Option.bind_eq_some_iff.mp H
      obtain ⟨t385, A130, H⟩ := H
      replace H : (if t385 = a1 then (if x5_1.length < 17592186044416 then (zX.l0 k1 a1 (x5_1 ++ [rd t381 x12_1]) t381 (t381.length : Int) (wrap64 (x12_1 + 1)) a0_0 l0_1) else (none)) else (zX.l0 k1 a1 x5_1 t381 (t381.length : Int) (wrap64 (x12_1 + 1)) a0_0 l0_1)) = some r := H
      have A13 := Aside0.mk A130
      clear A130
      by_cases c14 : t385 = a1
      ·rw [if_pos c14] at H
       have c14b0 : (t385 == a1) = true := beq_iff_eq.mpr c14
       have c14b1 : (t385 != a1) = false := bne_eq_false_iff_eq.mpr c14
       clear c14
       by_cases c15 : x5_1.length < 17592186044416
       ·rw [if_pos c15] at H
        have LMc15 := Aside0.mk c15
        clear c15
        obtain ⟨y386, hy386⟩ : ∃ y_ : List Int, y_ = (x5_1 ++ [rd t381 x12_1]) := ⟨_, rfl⟩
        replace H : (zX.l0 k1 a1 y386 t381 (t381.length : Int) (wrap64 (x12_1 + 1)) a0_0 l0_1) = some r := by first | (rw [hy386]; with_reducible exact H) | (have H2_ := (Option.bind_some _ _).symm.trans H; rw [hy386]; with_reducible exact H2_) | (have H2_ := (Option.bind_some _ _).symm.trans H; with_reducible exact H2_) | with_reducible exact H | (rw [hy386]; exact H) | exact H
        have Ny386 := Aside0.mk hy386
        clear hy386
        have H' := Aside0.mk H
        clear H
        have p384 : 0 ≤ (x12_1 : Int) := of_decide_eq_true sqA
        have q384 : x12_1 < (t381.length : Int) := of_decide_eq_true sqA
        obtain ⟨ad384, e384, hx384_0⟩ := Kd.zT (Kd.zg HO_10.out).2.2 x12_1 p384 q384
        cases e384
        replace p384 := eq_true p384
        replace q384 := eq_true q384
        have hcz16_0 : wr.cell? ⟨gb377, 0, none⟩ = some (.int .i64 a0_0) := (za BK377.out 0).trans rfl
        have hcz16_1 : wr.cell? ⟨gb377, 1, none⟩ = some (.slice A0_1 l0_1.length c0_1) := (za BK377.out 1).trans rfl
        have hfz16_0 := zb BK377.out 0
        have hfz16_1 := zb BK377.out 1
        go_wp2_with (first | ((with_reducible refine ze (f := 73) rfl ?_); refine zv (some 18) rfl rfl Tryz.func73 (by kernel_rfl) rfl #[.agg #[.int .i64 a0_0, .slice A0_1 l0_1.length c0_1], .int .i64 (rd t381 x12_1)] rfl sqM ?_; (with_reducible refine (qy.calls k1 a0_0 _ _ l0_1 (rd t381 x12_1) t385 _ ?side1 ?side2 A13.out).mono ?_); (case side1 => exact sqC (Kd.zt HR0_1.out HB.out)); (case side2 => exact HC0_1.out); rintro e w17 ⟨rfl, hb⟩; refine ⟨_, rfl, ?_⟩; have n0_ := Aside0.mk (Kd.zx (sqR HO_5.out) hb); have n1_ := Aside0.mk (Kd.zx (sqR HO_10.out) hb); have n2_ := Aside0.mk (zd (g := gb377) (o := .cells #[.int .i64 a0_0, .slice A0_1 l0_1.length c0_1] 24 (0, 0)) (sqK BK377.out) hb); have n3_ := Aside0.mk (zc sqB hb); clear HO_5; clear HO_10; clear BK377; clear HB; have HO_5 := n0_; have HO_10 := n1_; have BK377 := n2_; have HB := n3_; clear n0_ n1_ n2_ n3_; (try clear hb); (try clear hb2); (try clear hk); (try clear hi)) | ((with_reducible refine qB (b := .append) (xs := #[.tmp 21, .tmp 23]) rfl ?_); at_builtin; refine Kd.ji (Kd.int .i64) (w0 := w) w.heap.size rfl (.tmp 21) (.tmp 23) 22 3 (.int .i64 0) 8 rfl Tryz.underlying22 jH rfl (by decide) (by omega) u5 x5_1 (rd t381 x12_1) [.int .i64 (rd t381 x12_1)] (fun k_ => some k_ ≠ (.slice (some ad384) t381.length co9 : Value).ownBlock) (fun _ => False) rfl rfl ?aP (fun _ hk => hk.elim) ?aF ?aO ?aB ?aS ?aL ?_; (case aP => exact rfl); (case aB => exact sqB); (case aF => exact (fun k_ hk => Kd.yG (Kd.qt (sqR HO_10.out)) k_ hk)); (case aO => exact (sqR HO_5.out)); (case aS => exact (zh sqB)); (case aL => have := LMc15.out; omega); intro v387 w18 ho hb hg hat; rw [← Ny386.out] at ho; have n0_ := Aside0.mk (Kd.vm (ok := (fun _ => True)) (by refine sqR ?_; exact Kd.zn HO_10.out (fun _ hk => ⟨trivial, by first | exact hk | exact fun h_ => hk (h_.trans ((fun (A : Option Addr) (x y c : Nat) => (by cases A <;> rfl : (Value.slice A x c).ownBlock = (Value.slice A y c).ownBlock)) _ _ _ _))⟩)) hg hat); have n1_ := Aside0.mk (vz (g := gb377) (o := .cells #[.int .i64 a0_0, .slice A0_1 l0_1.length c0_1] 24 (0, 0)) (sqK BK377.out) hg (Kd.Qt HO_5.out BK377.out (by decide))); have n2_ := Aside0.mk (hb); have n3_ := Aside0.mk (ho); clear HO_10; clear BK377; clear HB; clear HO_5; have HO_10 := n0_; have BK377 := n1_; have HB := n2_; have HO388 := n3_; clear n0_ n1_ n2_ n3_; clear ho hb hg hat))
        go_roundg k1
        case measure => have := HK1.out; omega
        case rel => exact ⟨(y386), (wrap64 (x12_1 + 1)), (sqD), H', ⟨by have := HK1.out; omega⟩, ⟨sqR HO388.out⟩, ⟨by refine sqR ?_; exact Kd.zn HO_10.out (fun _ hk => hk.2)⟩, ⟨sqK BK377.out⟩, ⟨sqB⟩⟩
       ·rw [if_neg c15] at H
        exact absurd H (by simp)
      ·rw [if_neg c14] at H
       have c14b0 : (t385 == a1) = false := beq_eq_false_iff_ne.mpr c14
       have c14b1 : (t385 != a1) = true := bne_iff_ne.mpr c14
       have H' := Aside0.mk H
       clear H
       have p384 : 0 ≤ (x12_1 : Int) := of_decide_eq_true sqA
       have q384 : x12_1 < (t381.length : Int) := of_decide_eq_true sqA
       obtain ⟨ad384, e384, hx384_0⟩ := Kd.zT (Kd.zg HO_10.out).2.2 x12_1 p384 q384
       cases e384
       replace p384 := eq_true p384
       replace q384 := eq_true q384
       have hcz19_0 : wr.cell? ⟨gb377, 0, none⟩ = some (.int .i64 a0_0) := (za BK377.out 0).trans rfl
       have hcz19_1 : wr.cell? ⟨gb377, 1, none⟩ = some (.slice A0_1 l0_1.length c0_1) := (za BK377.out 1).trans rfl
       have hfz19_0 := zb BK377.out 0
       have hfz19_1 := zb BK377.out 1
       go_wp2_with (first | ((with_reducible refine ze (f := 73) rfl ?_); refine zv (some 18) rfl rfl Tryz.func73 (by kernel_rfl) rfl #[.agg #[.int .i64 a0_0, .slice A0_1 l0_1.length c0_1], .int .i64 (rd t381 x12_1)] rfl sqM ?_; (with_reducible refine (qy.calls k1 a0_0 _ _ l0_1 (rd t381 x12_1) t385 _ ?side1 ?side2 A13.out).mono ?_); (case side1 => exact sqC (Kd.zt HR0_1.out HB.out)); (case side2 => exact HC0_1.out); rintro e w20 ⟨rfl, hb⟩; refine ⟨_, rfl, ?_⟩; have n0_ := Aside0.mk (Kd.zx (sqR HO_5.out) hb); have n1_ := Aside0.mk (Kd.zx (sqR HO_10.out) hb); have n2_ := Aside0.mk (zd (g := gb377) (o := .cells #[.int .i64 a0_0, .slice A0_1 l0_1.length c0_1] 24 (0, 0)) (sqK BK377.out) hb); have n3_ := Aside0.mk (zc sqB hb); clear HO_5; clear HO_10; clear BK377; clear HB; have HO_5 := n0_; have HO_10 := n1_; have BK377 := n2_; have HB := n3_; clear n0_ n1_ n2_ n3_; (try clear hb); (try clear hb2); (try clear hk); (try clear hi)))
       go_roundg k1
       case measure => have := HK1.out; omega
       case rel => exact ⟨(x5_1), (wrap64 (x12_1 + 1)), (sqD), H', ⟨by have := HK1.out; omega⟩, ⟨sqR HO_5.out⟩, ⟨sqR HO_10.out⟩, ⟨sqK BK377.out⟩, ⟨sqB⟩⟩
     ·rw [if_neg c12] at H
      exact absurd H (by simp)
    ·rw [if_neg c11] at H
     exact absurd H (by simp)
   ·rw [if_neg c10] at H
    have c10b0 : decide (x12_1 < (t381.length : Int)) = false := decide_eq_false c10
    clear c10
    obtain rfl := Option.some.inj H
    go_wp2
    go_ret
    exact ⟨_, sqE, by refine sqR ?_; exact Kd.zn HO_5.out (fun _ hk => trivial), sqB⟩

def qF.f (k : Nat) (a0_0 : Int) (l0_1 : List Int) : Option (List Int) := (je.f k a0_0 l0_1).bind fun t394 => ((zX.f k a0_0 l0_1 (wrap64 (t394 - 1))).bind fun t395 => (some t395))
theorem qF.calls (k : Nat) (a0_0 : Int) (A0_1 : Option Addr) (c0_1 : Nat) (l0_1 : List Int) (r : List Int) (w : World) (hr0_1 : Kd.C (Kd.int .i64) w A0_1 l0_1.length l0_1) (hc0_1 : l0_1.length ≤ c0_1) (h : qF.f k a0_0 l0_1 = some r) :
  Calls Tryz.prog 40 #[.agg #[.int .i64 a0_0, .slice A0_1 l0_1.length c0_1]] w fun e w' => ∃ v0_ : Value, e = .returned (v0_) ∧ Kd.R (Kd.int .i64) 3 w' w.heap.size (fun _ => True) v0_ r ∧ Below w.heap.size w w' := by
 have hu24 := Tryz.underlying24
 have HR0_1 := Aside0.mk hr0_1
 have HC0_1 := Aside0.mk hc0_1
 clear hr0_1 hc0_1
 have HB := Aside0.mk (Below.refl w.heap.size w)
 have H : ((je.f k a0_0 l0_1).bind fun t394 => ((zX.f k a0_0 l0_1 (wrap64 (t394 - 1))).bind fun t395 => (some t395))) = some r := h
 clear h
 replace H := Option.bind_eq_some_iff.mp H
 obtain ⟨t394, A20, H⟩ := H
 replace H : ((zX.f k a0_0 l0_1 (wrap64 (t394 - 1))).bind fun t395 => (some t395)) = some r := H
 have A2 := Aside0.mk A20
 clear A20
 replace H := Option.bind_eq_some_iff.mp H
 obtain ⟨t395, A30, H⟩ := H
 replace H : (some t395) = some r := H
 have A3 := Aside0.mk A30
 clear A30
 obtain rfl := Option.some.inj H
 go_enter Tryz.func40, Tryz.ntmps40
 try go_wp2_with (first | ((with_reducible refine zm (N := 1) rfl ?_); refine zq ?hg (N := 1) ?hd (cs := #[.int .i64 a0_0, .slice A0_1 l0_1.length c0_1]) (t := 24) ?hr ?_; (case hd => rfl); (case hg => rfl); (case hr => exact sqG); intro gb393 hg w4 hbox hb; have n0_ := Aside0.mk (zc sqB hb); have n1_ := Aside0.mk (hbox); have n2_ := Aside0.mk ((sqS hg : w.heap.size ≤ gb393)); have n3_ := Aside0.mk ((sqS hg : w.heap.size ≤ gb393)); clear HB; have HB := n0_; have BK393 := n1_; have GW393 := n2_; have GE393 := n3_; clear n0_ n1_ n2_ n3_; clear hb hbox hg))
 have n0_ := Aside0.mk (jj BK393.out)
 have n1_ := Aside0.mk (qg HB.out)
 clear BK393
 clear HB
 have BK393 := n0_
 have HB := n1_
 clear n0_ n1_
 refine jW (n := 6) (S := fun w' => w'.cell? ⟨gb393, 0, none⟩ = some (.int .i64 a0_0) ∧ w'.cell? ⟨gb393, 1, none⟩ = some (.slice A0_1 l0_1.length c0_1)) (ds := []) #[false, false, false, false, false, false] (by kernel_rfl) rfl rfl ⟨(za BK393.out 0).trans rfl, (za BK393.out 1).trans rfl⟩ (fun hHeld => ?_)
 generalize w4.drew = w5 at BK393 HB hHeld ⊢
 refine jD (i := 0) (N := some 3) (v := ?_) (a' := ?_) #[true, false, false, false, false, false] rfl rfl (by kernel_rfl) (fun _ _ _ h => h) (Or.inl ⟨by rfl, ?_⟩) hHeld ?_ ?_
 rotate_left
 ·rintro w' ⟨s0, s1⟩
  go_simp
  with_reducible rfl
 rotate_left
 ·simp only [Act.put, List.setIfInBounds_toArray, List.set_cons_zero, List.set_cons_succ, zi, zj]
  rfl
 refine jD (i := 1) (N := some 4) (v := ?_) (a' := ?_) #[true, true, false, false, false, false] rfl rfl (by kernel_rfl) (fun _ _ _ h => h) (Or.inl ⟨by rfl, ?_⟩) hHeld ?_ ?_
 rotate_left
 ·rintro w' ⟨s0, s1⟩
  go_simp
  with_reducible rfl
 rotate_left
 ·simp only [Act.put, List.setIfInBounds_toArray, List.set_cons_zero, List.set_cons_succ, zi, zj]
  rfl
 refine yT (i := 2) (N := some 5) #[true, true, true, false, false, false] rfl rfl (by kernel_rfl) (by decide) (fun K hK => ?_)
 refine yE Tryz.func59 (by kernel_rfl) rfl #[.agg #[.int .i64 a0_0, .slice A0_1 l0_1.length c0_1]] (by rfl) rfl rfl sqM ?_
 with_reducible refine (je.calls k a0_0 _ _ l0_1 t394 _ ?side1 ?side2 A2.out).mono ?_
 (case side1 => exact sqC (Kd.zt HR0_1.out HB.out))
 (case side2 => exact HC0_1.out)
 rintro e w6 ⟨rfl, hb⟩
 refine ⟨_, rfl, ?_⟩
 have n0_ := Aside0.mk (zd (g := gb393) (o := .cells #[.int .i64 a0_0, .slice A0_1 l0_1.length c0_1] 24 (0, 0)) (sqK BK393.out) hb)
 have n1_ := Aside0.mk (zc sqB hb)
 clear BK393
 clear HB
 have BK393 := n0_
 have HB := n1_
 clear n0_ n1_
 (try clear hb)
 (try clear hb2)
 (try clear hk)
 (try clear hi)
 refine hK.out _ _ ⟨(za BK393.out 0).trans rfl, (za BK393.out 1).trans rfl⟩ (fun hHeld => ?_)
 clear hK K
 refine vG (a' := ?_) ?_ ?_
 rotate_left
 ·show Act.put _ (some 5) _ = _
  simp only [Act.put, List.setIfInBounds_toArray, List.set_cons_zero, List.set_cons_succ, zi, zj]
  rfl
 refine zO (i := 3) (N := some 6) (v := ?_) (a' := ?_) #[true, true, true, true, false, false] rfl rfl (by kernel_rfl) (fun _ _ _ h => h) (Or.inl ⟨by rfl, ?_⟩) ?_ ?_
 rotate_left
 ·intro w'
  go_simp
  with_reducible rfl
 rotate_left
 ·simp only [Act.put, List.setIfInBounds_toArray, List.set_cons_zero, List.set_cons_succ, zi, zj]
  rfl
 refine yT (i := 4) (N := some 7) #[true, true, true, true, true, false] rfl rfl (by kernel_rfl) (by decide) (fun K hK => ?_)
 refine yE Tryz.func58 (by kernel_rfl) rfl #[.agg #[.int .i64 a0_0, .slice A0_1 l0_1.length c0_1], .int .i64 (wrap64 (t394 - 1))] (by rfl) rfl rfl sqM ?_
 with_reducible refine (zX.calls k a0_0 _ _ l0_1 (wrap64 (t394 - 1)) t395 _ ?side1 ?side2 A3.out).mono ?_
 (case side1 => exact sqC (Kd.zt HR0_1.out HB.out))
 (case side2 => exact HC0_1.out)
 rintro e w7 ⟨v396, rfl, ho0, hb⟩
 refine ⟨_, rfl, ?_⟩
 have n0_ := Aside0.mk (Kd.zD ho0 (zh sqB))
 have n1_ := Aside0.mk (zd (g := gb393) (o := .cells #[.int .i64 a0_0, .slice A0_1 l0_1.length c0_1] 24 (0, 0)) (sqK BK393.out) hb)
 have n2_ := Aside0.mk (zc sqB hb)
 clear BK393
 clear HB
 have HO397 := n0_
 have BK393 := n1_
 have HB := n2_
 clear n0_ n1_ n2_
 (try clear hb)
 (try clear hb2)
 (try clear hk)
 (try clear hi)
 (try clear ho0)
 refine hK.out _ _ ⟨(za BK393.out 0).trans rfl, (za BK393.out 1).trans rfl⟩ (fun hHeld => ?_)
 clear hK K
 refine vG (a' := ?_) ?_ ?_
 rotate_left
 ·show Act.put _ (some 7) _ = _
  simp only [Act.put, List.setIfInBounds_toArray, List.set_cons_zero, List.set_cons_succ, zi, zj]
  rfl
 refine zO (i := 5) (N := some 2) (v := ?_) (a' := ?_) #[true, true, true, true, true, true] rfl rfl (by kernel_rfl) (fun _ _ _ h => h) (Or.inl ⟨by rfl, ?_⟩) ?_ ?_
 rotate_left
 ·intro w'
  go_simp
  with_reducible rfl
 rotate_left
 ·simp only [Act.put, List.setIfInBounds_toArray, List.set_cons_zero, List.set_cons_succ, zi, zj]
  rfl
 refine vF (by kernel_rfl) ?_
 try go_wp2
 go_ret
 exact ⟨_, sqE, sqR HO397.out, sqB⟩

end Go.Proofs.YteggmbhcnhbamaaGreat.F
end
section
namespace Go.Proofs.YteggmbhcnhbamaaGreat.F
open Go.RowKit Go.Proofs.YteggmbhcnhbamaaGreatW.PrintWords Go.Proofs.YteggmbhcnhbamaaGreatW.PrintLast Go.Proofs.YteggmbhcnhbamaaGreatW.PrintMore
set_option linter.unusedSimpArgs false
set_option linter.unusedVariables false
def zH.q (s t : Int) : Option Bool := if t = s then some false else q2.f s t
def zH.l0 : Nat → List Int → List Int → List Int → Int → Option (List Int)
  | 0, _, _, _, _ => none
  | k + 1, l, out, ss, x => if x < (ss.length : Int) then (if 0 ≤ x then ((Zv (zH.q (rd ss x)) l).bind fun b => if b = true then zH.l0 k l out ss (wrap64 (x + 1)) else (if out.length < 17592186044416 then zH.l0 k l (out ++ [rd ss x]) ss (wrap64 (x + 1)) else none)) else none) else some out
def zH.f (k : Nat) (l : List Int) : Option (List Int) := if l.length ≤ 17592186044416 then ((qC.f k l).bind fun t => if t = true then ((qS.f k l).bind fun ss => zH.l0 k l [] ss 0) else some []) else none
theorem zH.pred (s : Int) (ga : Nat) (w : World) (ha : w.heap[ga]? = some (.cells #[.int .i64 s] 3 (0, 0))) : ZH 44 #[.pointer (some ⟨ga, 0, none⟩)] (zH.q s) w := by
  intro W x r hq hb
  unfold zH.q at hq
  have hc0 : W.cell? ⟨ga, 0, none⟩ = some (.int .i64 s) := (za (zd ha hb) 0).trans rfl
  by_cases e : x = s
  · rw [if_pos e] at hq
    obtain rfl := Option.some.inj hq
    have e0 : (x != s) = false := bne_eq_false_iff_eq.mpr e
    clear ha hb hq e
    go_enter Tryz.func44, Tryz.ntmps44
    go_wp2
    go_ret
    exact ⟨rfl, by repeat (first | exact Below.refl _ _ | apply qg | apply qb)⟩
  · rw [if_neg e] at hq
    have e0 : (x != s) = true := bne_iff_ne.mpr e
    have H := Aside0.mk hq
    clear ha hb hq e
    go_enter Tryz.func44, Tryz.ntmps44
    go_wp2_with (go_at_call 45; (try simp only [zi, zj]); (with_reducible refine (q2.calls s x r _ H.out).mono ?_); rintro e w' ⟨rfl, ⟨nd, rfl⟩⟩)
    go_ret
    exact ⟨rfl, by repeat (first | exact Below.refl _ _ | apply qg | apply qb)⟩
theorem zH.calls (k : Nat) (A0 : Option Addr) (c0 : Nat) (l0 : List Int) (r : List Int) (w : World) (hr0 : Kd.C (Kd.int .i64) w A0 l0.length l0) (hc0 : l0.length ≤ c0) (h : zH.f k l0 = some r) :
    Calls Tryz.prog 22 #[.slice A0 l0.length c0] w fun e w' => ∃ v0_ : Value, e = .returned (v0_) ∧ Kd.R (Kd.int .i64) 3 w' w.heap.size (fun _ => True) v0_ r ∧ Below w.heap.size w w' := by
  unfold zH.f at h
  by_cases hl : l0.length ≤ 17592186044416
  case neg => rw [if_neg hl] at h; exact absurd h (by simp)
  rw [if_pos hl] at h
  obtain ⟨t, ht, h⟩ := Option.bind_eq_some_iff.mp h
  have HR := Aside0.mk hr0
  have HC := Aside0.mk hc0
  have HS := Aside0.mk hl
  have HT := Aside0.mk ht
  have HB := Aside0.mk (Below.refl w.heap.size w)
  obtain ⟨yL, hyL⟩ : ∃ y_ : List Int, y_ = (([] : List Int)) := ⟨_, rfl⟩
  cases t with
  | false =>
    have hn : r = [] := by simpa using h.symm
    subst hn
    clear h hr0 hc0 hl ht
    have NyL := Aside0.mk hyL
    clear hyL
    go_enter Tryz.func22, Tryz.ntmps22
    go_wp2_with (first
      | ((with_reducible refine zm (N := 6) rfl ?_); refine Kd.jy (Kd.int .i64) _ 3 ?hg (N := 6) ?hd (xs := ([] : List Int)) (inner := []) (ok := fun _ => True) (okp := fun _ => True) ?hr ?hp (fun _ hk => hk) trivial (Below.refl _ _) (Nat.le_refl _) (by simp) ?_; (case hd => rfl); (case hg => rfl); (case hr => exact sqG); (case hp => exact (qK.none _ _)); intro vL wL hoL hb hg_ hnew_; clear hg_ hnew_; clear hoL; have n1_ := Aside0.mk (zc sqB hb); clear HB; have HB := n1_; clear n1_; clear hb)
      | ((with_reducible refine ze (f := 41) rfl ?_); refine zv (some 8) rfl rfl Tryz.func41 (by kernel_rfl) rfl #[.slice A0 l0.length c0] rfl (by (try simp only [List.map_toArray, List.map_cons, List.map_nil]); first | done | rfl) ?_; (with_reducible refine (qC.calls k _ _ l0 false _ ?side1 HC.out HT.out).mono ?_); (case side1 => exact sqC (Kd.zt HR.out HB.out)); rintro e w' ⟨rfl, ⟨nd, rfl⟩⟩; refine ⟨_, rfl, ?_⟩))
    go_ret
    exact ⟨_, rfl, Kd.Js _ _ _ _ _, sqB⟩
  | true =>
    have h : ((qS.f k l0).bind fun ss => zH.l0 k l0 [] ss 0) = some r := by simpa using h
    obtain ⟨ss, hss, h⟩ := Option.bind_eq_some_iff.mp h
    rw [← hyL] at h
    have NyL := Aside0.mk hyL
    have HSS := Aside0.mk hss
    have H' := Aside0.mk h
    clear h hr0 hc0 hl ht hyL hss
    go_enter Tryz.func22, Tryz.ntmps22
    go_wp2_with (first
      | ((with_reducible refine zm (N := 6) rfl ?_); refine Kd.jy (Kd.int .i64) _ 3 ?hg (N := 6) ?hd (xs := ([] : List Int)) (inner := []) (ok := fun _ => True) (okp := fun _ => True) ?hr ?hp (fun _ hk => hk) trivial (Below.refl _ _) (Nat.le_refl _) (by simp) ?_; (case hd => rfl); (case hg => rfl); (case hr => exact sqG); (case hp => exact (qK.none _ _)); intro vL wL hoL hb hg_ hnew_; clear hg_ hnew_; (first | rw [← NyL.out] at hoL | (simp only [Int.reduceToNat] at hoL; rw [← NyL.out] at hoL)); have n0_ := Aside0.mk (Kd.zD hoL (zh sqB)); have n1_ := Aside0.mk (zc sqB hb); clear HB; have HOL := n0_; have HB := n1_; clear n0_ n1_; clear hb hoL)
      | ((with_reducible refine ze (f := 41) rfl ?_); refine zv (some 8) rfl rfl Tryz.func41 (by kernel_rfl) rfl #[.slice A0 l0.length c0] rfl (by (try simp only [List.map_toArray, List.map_cons, List.map_nil]); first | done | rfl) ?_; (with_reducible refine (qC.calls k _ _ l0 true _ ?side1 HC.out HT.out).mono ?_); (case side1 => exact sqC (Kd.zt HR.out HB.out)); rintro e w' ⟨rfl, ⟨nd, rfl⟩⟩; refine ⟨_, rfl, ?_⟩)
      | ((with_reducible refine ze (f := 42) rfl ?_); refine zv (some 11) rfl rfl Tryz.func42 (by kernel_rfl) rfl #[.slice A0 l0.length c0] rfl (by (try simp only [List.map_toArray, List.map_cons, List.map_nil]); first | done | rfl) ?_; (with_reducible refine (qS.calls k _ _ l0 ss _ ?side1 HC.out HSS.out).mono ?_); (case side1 => exact sqC (Kd.zt HR.out HB.out)); rintro e w8 ⟨vS, rfl, ho0, hb⟩; refine ⟨_, rfl, ?_⟩; have n0_ := Aside0.mk (Kd.zw (sqR HOL.out) (Kd.zQ ho0) hb); have n1_ := Aside0.mk (Kd.zD (Kd.zP ho0 (Kd.qt (sqR HOL.out))) (zh sqB)); have n3_ := Aside0.mk (zc sqB hb); clear HOL; clear HB; have HOL := n0_; have HOS := n1_; have HB := n3_; clear n0_ n1_ n3_; clear hb ho0; obtain ⟨Ao, co, eo⟩ := Kd.zK HOS.out; subst eo))
    go_loopg [3, 13] k (fun kq v3 v13 w' => ∃ (out : List Int) (x : Int), v13 = .int .i64 x ∧ Aside0 (zH.l0 kq l0 out ss x = some r) ∧ Aside0 (kq ≤ k) ∧ Aside0 (Kd.R (Kd.int .i64) 3 w' w.heap.size (fun k_ => some k_ ≠ ((.slice Ao ss.length co) : Value).ownBlock) v3 out) ∧ Aside0 (Kd.R (Kd.int .i64) 3 w' w.heap.size (fun k_ => some k_ ≠ (v3 : Value).ownBlock) (.slice Ao ss.length co) ss) ∧ Aside0 (Below w.heap.size w w'))
    case atStart => exact ⟨yL, 0, rfl, H', ⟨Nat.le_refl _⟩, ⟨by refine sqR ?_; exact Kd.zn HOL.out (fun _ hk => hk.2)⟩, ⟨by refine sqR ?_; exact Kd.zn HOS.out (fun _ hk => hk.2)⟩, ⟨sqB⟩⟩
    case round =>
      clear H' HOL HOS HB
      obtain ⟨out, x, rfl, HA, HK1, HO, HOS, HB⟩ := hrel
      cases gk with
      | zero => exact absurd HA.out (by simp [zH.l0])
      | succ k1 =>
        have H := HA.out
        clear HA
        simp only [zH.l0] at H
        by_cases c1 : x < (ss.length : Int)
        · rw [if_pos c1] at H
          by_cases c2 : 0 ≤ x
          · rw [if_pos c2] at H
            obtain ⟨b, hb, H⟩ := Option.bind_eq_some_iff.mp H
            have AB := Aside0.mk hb
            clear hb
            have c1b0 : decide (x < (ss.length : Int)) = true := decide_eq_true c1
            have c2b0 : decide (0 ≤ x) = true := decide_eq_true c2
            obtain ⟨ad1, e1, hx1⟩ := Kd.zT (Kd.zg HOS.out).2.2 x c2 c1
            cases e1
            replace c1 := eq_true c1
            replace c2 := eq_true c2
            obtain ⟨y, hy⟩ : ∃ y_ : Int, y_ = rd ss x := ⟨_, rfl⟩
            rw [← hy] at AB H hx1
            clear hy
            cases b with
            | true =>
              have H' := Aside0.mk (show zH.l0 k1 l0 out ss (wrap64 (x + 1)) = some r by simpa using H)
              clear H
              go_wp2_with (first
                | ((with_reducible refine zm (N := 5) rfl ?_); refine zq ?hg (N := 5) ?hd (cs := #[.int .i64 0]) (t := 3) ?hr ?_; (case hd => rfl); (case hg => rfl); (case hr => exact sqG); intro ga hg w7 hbox hb; have HG3 := Aside0.mk hg; have BKa := Aside0.mk hbox; have HBa := Aside0.mk hb; have hca : w7.cell? ⟨ga, 0, none⟩ = some (.int .i64 0) := (za BKa.out 0).trans rfl; have hfa := zb BKa.out 0; clear hg hbox hb hx1)
                | ((with_reducible refine j3 (t := 3) (p := 5) rfl ?_); refine jM (t := 3) (p := 5) (v := ?vo_w8) (w1 := (w7.setCell ⟨ga, 0, none⟩ (.int .i64 y))) ?hg ?ho ?hn ?hr ?_; (case ho => rfl); (case hg => rfl); (case hn => rfl); (case hr => exact sqG); intro w8 hw; have hp_ := yY (v := .int .i64 y) HG3.out BKa.out HBa.out; rw [← hw] at hp_; have BK8 := Aside0.mk hp_.1; have HB8 := Aside0.mk hp_.2; clear hp_ hw BKa HBa HG3 hca hfa; have BKa := BK8; clear BK8))
              refine (jc (zH.q y) _ _ (enters_of Tryz.func44 (by kernel_rfl) rfl) _ _ l0 true _ (zH.pred y _ _ BKa.out) (Kd.zt HR.out (zc HB.out HB8.out)) HC.out HS.out AB.out).mono ?_
              rintro e w9 ⟨rfl, hb⟩
              have HB9 := Aside0.mk (zc HB8.out hb)
              have n0_ := Aside0.mk (Kd.zx HO.out HB9.out)
              have n1_ := Aside0.mk (Kd.zx HOS.out HB9.out)
              have n2_ := Aside0.mk (zc HB.out HB9.out)
              clear HO HOS HB hb HB8 HB9 BKa
              have HO := n0_
              have HOS := n1_
              have HB := n2_
              clear n0_ n1_ n2_
              go_wp2
              go_roundg k1
              case measure => have := HK1.out; omega
              case rel => exact ⟨out, wrap64 (x + 1), rfl, H', ⟨by have := HK1.out; omega⟩, ⟨sqR HO.out⟩, ⟨sqR HOS.out⟩, ⟨sqB⟩⟩
            | false =>
              have H1 : (if out.length < 17592186044416 then zH.l0 k1 l0 (out ++ [y]) ss (wrap64 (x + 1)) else none) = some r := by simpa using H
              clear H
              by_cases c3 : out.length < 17592186044416
              case neg => rw [if_neg c3] at H1; exact absurd H1 (by simp)
              rw [if_pos c3] at H1
              have HLen := Aside0.mk c3
              clear c3
              obtain ⟨yA, hyA⟩ : ∃ y_ : List Int, y_ = (out ++ [y]) := ⟨_, rfl⟩
              rw [← hyA] at H1
              have NyA := Aside0.mk hyA
              have H' := Aside0.mk H1
              clear H1 hyA
              go_wp2_with (first
                | ((with_reducible refine zm (N := 5) rfl ?_); refine zq ?hg (N := 5) ?hd (cs := #[.int .i64 0]) (t := 3) ?hr ?_; (case hd => rfl); (case hg => rfl); (case hr => exact sqG); intro ga hg w7 hbox hb; have HG3 := Aside0.mk hg; have BKa := Aside0.mk hbox; have HBa := Aside0.mk hb; have hca : w7.cell? ⟨ga, 0, none⟩ = some (.int .i64 0) := (za BKa.out 0).trans rfl; have hfa := zb BKa.out 0; clear hg hbox hb hx1)
                | ((with_reducible refine j3 (t := 3) (p := 5) rfl ?_); refine jM (t := 3) (p := 5) (v := ?vo_w8) (w1 := (w7.setCell ⟨ga, 0, none⟩ (.int .i64 y))) ?hg ?ho ?hn ?hr ?_; (case ho => rfl); (case hg => rfl); (case hn => rfl); (case hr => exact sqG); intro w8 hw; have hp_ := yY (v := .int .i64 y) HG3.out BKa.out HBa.out; rw [← hw] at hp_; have BK8 := Aside0.mk hp_.1; have HB8 := Aside0.mk hp_.2; clear hp_ hw BKa HBa HG3 hca hfa; have BKa := BK8; clear BK8))
              refine (jc (zH.q y) _ _ (enters_of Tryz.func44 (by kernel_rfl) rfl) _ _ l0 false _ (zH.pred y _ _ BKa.out) (Kd.zt HR.out (zc HB.out HB8.out)) HC.out HS.out AB.out).mono ?_
              rintro e w9 ⟨rfl, hb⟩
              have hca : w9.cell? ⟨ga, 0, none⟩ = some (.int .i64 y) := (za (zd BKa.out hb) 0).trans rfl
              have HB9 := Aside0.mk (zc HB8.out hb)
              have n0_ := Aside0.mk (Kd.zx HO.out HB9.out)
              have n1_ := Aside0.mk (Kd.zx HOS.out HB9.out)
              have n2_ := Aside0.mk (zc HB.out HB9.out)
              clear HO HOS HB hb HB8 HB9 BKa
              have HO := n0_
              have HOS := n1_
              have HB := n2_
              clear n0_ n1_ n2_
              go_wp2_with ((with_reducible refine qB (b := .append) (xs := #[.tmp 21, .tmp 23]) rfl ?_); at_builtin; refine Kd.ji (Kd.int .i64) (w0 := w) w.heap.size rfl (.tmp 21) (.tmp 23) 22 3 (.int .i64 0) 8 rfl Tryz.underlying22 jH rfl (by decide) (by omega) u3 out y [.int .i64 y] (fun k_ => some k_ ≠ (.slice (some ad1) ss.length co : Value).ownBlock) (fun _ => False) rfl rfl ?aP (fun _ hk => hk.elim) ?aF ?aO ?aB ?aS ?aL ?_; (case aP => exact rfl); (case aB => exact sqB); (case aF => exact (fun k_ hk => Kd.yG (Kd.qt (sqR HOS.out)) k_ hk)); (case aO => exact (sqR HO.out)); (case aS => exact (zh sqB)); (case aL => have := HLen.out; omega); intro v230 w18 ho hb hg hat; rw [← NyA.out] at ho; have n0_ := Aside0.mk (Kd.vm (ok := (fun _ => True)) (by refine sqR ?_; exact Kd.zn HOS.out (fun _ hk => ⟨trivial, hk⟩)) hg hat); have n2_ := Aside0.mk (hb); have n3_ := Aside0.mk (ho); clear HOS; clear HB; clear HO; have HOS := n0_; have HB := n2_; have HO := n3_; clear n0_ n2_ n3_; clear ho hb hg hat hca)
              go_roundg k1
              case measure => have := HK1.out; omega
              case rel => exact ⟨yA, wrap64 (x + 1), rfl, H', ⟨by have := HK1.out; omega⟩, ⟨sqR HO.out⟩, ⟨by refine sqR ?_; exact Kd.zn HOS.out (fun _ hk => hk.2)⟩, ⟨sqB⟩⟩
          · rw [if_neg c2] at H; exact absurd H (by simp)
        · rw [if_neg c1] at H
          have c1b0 : decide (x < (ss.length : Int)) = false := decide_eq_false c1
          clear c1
          obtain rfl := Option.some.inj H
          go_wp2
          go_ret
          exact ⟨_, rfl, by refine sqR ?_; exact Kd.zn HO.out (fun _ _ => trivial), sqB⟩
end Go.Proofs.YteggmbhcnhbamaaGreat.F
end
section
namespace Go.Proofs.YteggmbhcnhbamaaGreat.F
open Go.RowKit Go.Proofs.YteggmbhcnhbamaaGreatW.PrintWords Go.Proofs.YteggmbhcnhbamaaGreatW.PrintLast Go.Proofs.YteggmbhcnhbamaaGreatW.PrintMore
attribute [local go_sem] jG jJ jZ jV jr jq jF jI   -- for this text's walks alone
set_option linter.unusedVariables false
set_option linter.unusedSimpArgs false

def ql.f (k : Nat) (a0 : Int) (l1 : List Int) : Option (Int × List Int × Bool) := (zH.f k l1).bind fun t334 => ((qf.f k a0 t334).bind fun t338 => (if t338 = true then (some (a0, t334, true)) else (some (0, ([] : List Int), false))))
theorem ql.calls (k : Nat) (a0 : Int) (A1 : Option Addr) (c1 : Nat) (l1 : List Int) (r1 : Int) (r2 : List Int) (r3 : Bool) (w : World) (hr1 : Kd.C (Kd.int .i64) w A1 l1.length l1) (hc1 : l1.length ≤ c1) (h : ql.f k a0 l1 = some (r1, r2, r3)) :
  Calls Tryz.prog 52 #[.int .i64 a0, .slice A1 l1.length c1] w fun e w' => ∃ v1_ : Value, e = .returned (.tuple #[.agg #[.int .i64 r1, v1_], .bool r3]) ∧ Kd.R (Kd.int .i64) 3 w' w.heap.size (fun _ => True) v1_ r2 ∧ Below w.heap.size w w' := by
 have hu24 := Tryz.underlying24
 have HR1 := Aside0.mk hr1
 have HC1 := Aside0.mk hc1
 clear hr1 hc1
 have HB := Aside0.mk (Below.refl w.heap.size w)
 have H : ((zH.f k l1).bind fun t334 => ((qf.f k a0 t334).bind fun t338 => (if t338 = true then (some (a0, t334, true)) else (some (0, ([] : List Int), false))))) = some (r1, r2, r3) := h
 clear h
 replace H := Option.bind_eq_some_iff.mp H
 obtain ⟨t334, A30, H⟩ := H
 replace H : ((qf.f k a0 t334).bind fun t338 => (if t338 = true then (some (a0, t334, true)) else (some (0, ([] : List Int), false)))) = some (r1, r2, r3) := H
 have A3 := Aside0.mk A30
 clear A30
 replace H := Option.bind_eq_some_iff.mp H
 obtain ⟨t338, A40, H⟩ := H
 replace H : (if t338 = true then (some (a0, t334, true)) else (some (0, ([] : List Int), false))) = some (r1, r2, r3) := H
 have A4 := Aside0.mk A40
 clear A40
 by_cases c5 : t338 = true
 ·subst c5
  have H1 : (some (a0, t334, true)) = some (r1, r2, r3) := by rw [if_pos rfl] at H; exact H
  clear H
  have H := H1
  clear H1
  simp only [Option.some.injEq, Prod.mk.injEq] at H
  obtain ⟨rfl, rfl, rfl⟩ := H
  go_enter Tryz.func52, Tryz.ntmps52
  go_wp2_with (first | ((with_reducible refine zm (N := 4) rfl ?_); refine zq ?hg (N := 4) ?hd (cs := #[.int .i64 0, .slice none 0 0]) (t := 24) ?hr ?_; (case hd => rfl); (case hg => rfl); (case hr => exact sqG); intro gb333 hg w6 hbox hb; have n0_ := Aside0.mk (zc sqB hb); have n1_ := Aside0.mk (hbox); have n2_ := Aside0.mk ((sqS hg : w.heap.size ≤ gb333)); have n3_ := Aside0.mk ((sqS hg : w.heap.size ≤ gb333)); clear HB; have HB := n0_; have BK333 := n1_; have GW333 := n2_; have GE333 := n3_; clear n0_ n1_ n2_ n3_; clear hb hbox hg) | ((with_reducible refine ze (f := 22) rfl ?_); refine zv (some 9) rfl rfl Tryz.func22 (by kernel_rfl) rfl #[.slice A1 l1.length c1] rfl sqM ?_; (with_reducible refine (zH.calls k _ _ l1 t334 _ ?side1 ?side2 A3.out).mono ?_); (case side1 => exact sqC (Kd.zt HR1.out HB.out)); (case side2 => exact HC1.out); rintro e w7 ⟨v335, rfl, ho0, hb⟩; refine ⟨_, rfl, ?_⟩; have n0_ := Aside0.mk (Kd.zD ho0 (zh sqB)); have n1_ := Aside0.mk (zd (g := gb333) (o := .cells #[.int .i64 0, .slice none 0 0] 24 (0, 0)) (sqK BK333.out) hb); have n2_ := Aside0.mk (zc sqB hb); clear BK333; clear HB; have HO336 := n0_; have BK333 := n1_; have HB := n2_; clear n0_ n1_ n2_; (try clear hb); (try clear hb2); (try clear hk); (try clear hi); (try clear ho0); obtain ⟨Ao8, co8, eo8⟩ := Kd.zK HO336.out; subst eo8) | ((with_reducible refine zm (N := 6) rfl ?_); refine zq ?hg (N := 6) ?hd (cs := #[.int .i64 0, .slice none 0 0]) (t := 24) ?hr ?_; (case hd => rfl); (case hg => rfl); (case hr => exact sqG); intro gb337 hg w9 hbox hb; have n0_ := Aside0.mk (Kd.zx (sqR HO336.out) hb); have n1_ := Aside0.mk (zd (g := gb333) (o := .cells #[.int .i64 0, .slice none 0 0] 24 (0, 0)) (sqK BK333.out) hb); have n2_ := Aside0.mk (zc sqB hb); have n3_ := Aside0.mk (hbox); have n4_ := Aside0.mk ((sqS hg : w.heap.size ≤ gb337)); have n5_ := Aside0.mk ((sqS hg : w.heap.size ≤ gb337)); have n6_ := Aside0.mk ((by rw [hg]; exact Nat.ne_of_lt (zU (g := gb333) (o := .cells #[.int .i64 0, .slice none 0 0] 24 (0, 0)) (sqK BK333.out)) : gb333 ≠ gb337)); have n7_ := Aside0.mk ((by rw [hg]; exact Nat.ne_of_gt (zU (g := gb333) (o := .cells #[.int .i64 0, .slice none 0 0] 24 (0, 0)) (sqK BK333.out)) : gb337 ≠ gb333)); clear HO336; clear BK333; clear HB; have HO336 := n0_; have BK333 := n1_; have HB := n2_; have BK337 := n3_; have GW337 := n4_; have GE337 := n5_; have NB333_337 := n6_; have NB337_333 := n7_; clear n0_ n1_ n2_ n3_ n4_ n5_ n6_ n7_; clear hb hbox hg; have hnb10 := NB337_333.out; have hnc10 := NB333_337.out; have hcz11_0 : w9.cell? ⟨gb337, 0, none⟩ = some (.int .i64 0) := (za BK337.out 0).trans rfl; have hcz11_1 : w9.cell? ⟨gb337, 1, none⟩ = some (.slice none 0 0) := (za BK337.out 1).trans rfl; have hfz11_0 := zb BK337.out 0; have hfz11_1 := zb BK337.out 1) | ((with_reducible refine ze (f := 46) rfl ?_); refine zv (some 12) rfl rfl Tryz.func46 (by kernel_rfl) rfl #[.agg #[.int .i64 a0, .slice Ao8 t334.length co8]] rfl sqM ?_; (with_reducible refine (qf.calls k a0 _ _ t334 true _ ?side1 ?side2 A4.out).mono ?_); (case side1 => refine (Kd.zg (e := 3) (base := w.heap.size) (ok := fun k_ => True) (n := t334.length) (c := co8) ?_).2.2; exact (by refine sqR ?_; exact (Kd.zn (Kd.zp (p := ⟨gb337, 1, none⟩) (Kd.zp (p := ⟨gb337, 0, none⟩) (Kd.zz HO336.out BK337.out (by decide)) (fun _ hk => hk.2) (.int .i64 a0)) (fun _ hk => hk.2) (.slice Ao8 t334.length co8)) (fun _ h_ => h_.1)))); (case side2 => exact (Kd.zg HO336.out).2.1); rintro e w12 ⟨rfl, hb⟩; refine ⟨_, rfl, ?_⟩; have n0_ := Aside0.mk (Kd.zx (by refine sqR ?_; exact (Kd.zn (Kd.zp (p := ⟨gb337, 1, none⟩) (Kd.zp (p := ⟨gb337, 0, none⟩) (Kd.zz HO336.out BK337.out (by decide)) (fun _ hk => hk.2) (.int .i64 a0)) (fun _ hk => hk.2) (.slice Ao8 t334.length co8)) (fun _ h_ => h_.1))) hb); have n1_ := Aside0.mk (zd (g := gb333) (o := .cells #[.int .i64 0, .slice none 0 0] 24 (0, 0)) (by refine sqK ?_; refine z6 ?_ NB333_337.out _; refine sqK ?_; refine z6 ?_ NB333_337.out _; refine sqK ?_; exact BK333.out) hb); have n2_ := Aside0.mk (zd (g := gb337) (o := .cells #[.int .i64 a0, .slice Ao8 t334.length co8] 24 (0, 0)) (by refine sqK ?_; refine zF (cs := #[.int .i64 a0, .slice none 0 0]) ?_ 1 _ rfl; refine sqK ?_; refine zF (cs := #[.int .i64 0, .slice none 0 0]) ?_ 0 _ rfl; refine sqK ?_; exact BK337.out) hb); have n3_ := Aside0.mk (zc sqB hb); clear HO336; clear BK333; clear BK337; clear HB; have HO336 := n0_; have BK333 := n1_; have BK337 := n2_; have HB := n3_; clear n0_ n1_ n2_ n3_; (try clear hb); (try clear hb2); (try clear hk); (try clear hi); have hcz13_0 : w12.cell? ⟨gb337, 0, none⟩ = some (.int .i64 a0) := (za BK337.out 0).trans rfl; have hcz13_1 : w12.cell? ⟨gb337, 1, none⟩ = some (.slice Ao8 t334.length co8) := (za BK337.out 1).trans rfl; have hfz13_0 := zb BK337.out 0; have hfz13_1 := zb BK337.out 1; have hcz14_0 : w12.cell? ⟨gb333, 0, none⟩ = some (.int .i64 0) := (za BK333.out 0).trans rfl; have hcz14_1 : w12.cell? ⟨gb333, 1, none⟩ = some (.slice none 0 0) := (za BK333.out 1).trans rfl; have hfz14_0 := zb BK333.out 0; have hfz14_1 := zb BK333.out 1))
  refine bodyPost_ret (qz rfl _ _ gb333 24 #[.int .i64 a0, .slice Ao8 t334.length co8] (0, 0) _ rfl (by refine sqK ?_; refine zF (cs := #[.int .i64 a0, .slice none 0 0]) ?_ 1 _ rfl; refine sqK ?_; refine zF (cs := #[.int .i64 0, .slice none 0 0]) ?_ 0 _ rfl; refine sqK ?_; exact BK333.out) Tryz.underlying24 rfl (by kernel_rfl)) rfl ?_
  exact ⟨_, sqE, by refine sqR ?_; exact Kd.zn (Kd.zp (p := ⟨gb333, 1, none⟩) (Kd.zp (p := ⟨gb333, 0, none⟩) (Kd.zz HO336.out BK333.out (by decide)) (fun _ hk => hk.2) (.int .i64 a0)) (fun _ hk => hk.2) (.slice Ao8 t334.length co8)) (fun _ hk => trivial), sqB⟩
 ·replace c5 := Bool.eq_false_iff.mpr c5
  subst c5
  have H1 : (some (0, ([] : List Int), false)) = some (r1, r2, r3) := by rw [if_neg (show ¬ (false = true) by decide)] at H; exact H
  clear H
  have H := H1
  clear H1
  simp only [Option.some.injEq, Prod.mk.injEq] at H
  obtain ⟨rfl, rfl, rfl⟩ := H
  go_enter Tryz.func52, Tryz.ntmps52
  go_wp2_with (first | ((with_reducible refine zm (N := 4) rfl ?_); refine zq ?hg (N := 4) ?hd (cs := #[.int .i64 0, .slice none 0 0]) (t := 24) ?hr ?_; (case hd => rfl); (case hg => rfl); (case hr => exact sqG); intro gb333 hg w15 hbox hb; have n0_ := Aside0.mk (zc sqB hb); have n1_ := Aside0.mk (hbox); have n2_ := Aside0.mk ((sqS hg : w.heap.size ≤ gb333)); have n3_ := Aside0.mk ((sqS hg : w.heap.size ≤ gb333)); clear HB; have HB := n0_; have BK333 := n1_; have GW333 := n2_; have GE333 := n3_; clear n0_ n1_ n2_ n3_; clear hb hbox hg) | ((with_reducible refine ze (f := 22) rfl ?_); refine zv (some 9) rfl rfl Tryz.func22 (by kernel_rfl) rfl #[.slice A1 l1.length c1] rfl sqM ?_; (with_reducible refine (zH.calls k _ _ l1 t334 _ ?side1 ?side2 A3.out).mono ?_); (case side1 => exact sqC (Kd.zt HR1.out HB.out)); (case side2 => exact HC1.out); rintro e w16 ⟨v335, rfl, ho0, hb⟩; refine ⟨_, rfl, ?_⟩; have n0_ := Aside0.mk (Kd.zD ho0 (zh sqB)); have n1_ := Aside0.mk (zd (g := gb333) (o := .cells #[.int .i64 0, .slice none 0 0] 24 (0, 0)) (sqK BK333.out) hb); have n2_ := Aside0.mk (zc sqB hb); clear BK333; clear HB; have HO336 := n0_; have BK333 := n1_; have HB := n2_; clear n0_ n1_ n2_; (try clear hb); (try clear hb2); (try clear hk); (try clear hi); (try clear ho0); obtain ⟨Ao17, co17, eo17⟩ := Kd.zK HO336.out; subst eo17) | ((with_reducible refine zm (N := 6) rfl ?_); refine zq ?hg (N := 6) ?hd (cs := #[.int .i64 0, .slice none 0 0]) (t := 24) ?hr ?_; (case hd => rfl); (case hg => rfl); (case hr => exact sqG); intro gb337 hg w18 hbox hb; have n0_ := Aside0.mk (Kd.zx (sqR HO336.out) hb); have n1_ := Aside0.mk (zd (g := gb333) (o := .cells #[.int .i64 0, .slice none 0 0] 24 (0, 0)) (sqK BK333.out) hb); have n2_ := Aside0.mk (zc sqB hb); have n3_ := Aside0.mk (hbox); have n4_ := Aside0.mk ((sqS hg : w.heap.size ≤ gb337)); have n5_ := Aside0.mk ((sqS hg : w.heap.size ≤ gb337)); have n6_ := Aside0.mk ((by rw [hg]; exact Nat.ne_of_lt (zU (g := gb333) (o := .cells #[.int .i64 0, .slice none 0 0] 24 (0, 0)) (sqK BK333.out)) : gb333 ≠ gb337)); have n7_ := Aside0.mk ((by rw [hg]; exact Nat.ne_of_gt (zU (g := gb333) (o := .cells #[.int .i64 0, .slice none 0 0] 24 (0, 0)) (sqK BK333.out)) : gb337 ≠ gb333)); clear HO336; clear BK333; clear HB; have HO336 := n0_; have BK333 := n1_; have HB := n2_; have BK337 := n3_; have GW337 := n4_; have GE337 := n5_; have NB333_337 := n6_; have NB337_333 := n7_; clear n0_ n1_ n2_ n3_ n4_ n5_ n6_ n7_; clear hb hbox hg; have hnb19 := NB337_333.out; have hnc19 := NB333_337.out; have hcz20_0 : w18.cell? ⟨gb337, 0, none⟩ = some (.int .i64 0) := (za BK337.out 0).trans rfl; have hcz20_1 : w18.cell? ⟨gb337, 1, none⟩ = some (.slice none 0 0) := (za BK337.out 1).trans rfl; have hfz20_0 := zb BK337.out 0; have hfz20_1 := zb BK337.out 1) | ((with_reducible refine ze (f := 46) rfl ?_); refine zv (some 12) rfl rfl Tryz.func46 (by kernel_rfl) rfl #[.agg #[.int .i64 a0, .slice Ao17 t334.length co17]] rfl sqM ?_; (with_reducible refine (qf.calls k a0 _ _ t334 false _ ?side1 ?side2 A4.out).mono ?_); (case side1 => refine (Kd.zg (e := 3) (base := w.heap.size) (ok := fun k_ => True) (n := t334.length) (c := co17) ?_).2.2; exact (by refine sqR ?_; exact (Kd.zn (Kd.zp (p := ⟨gb337, 1, none⟩) (Kd.zp (p := ⟨gb337, 0, none⟩) (Kd.zz HO336.out BK337.out (by decide)) (fun _ hk => hk.2) (.int .i64 a0)) (fun _ hk => hk.2) (.slice Ao17 t334.length co17)) (fun _ h_ => h_.1)))); (case side2 => exact (Kd.zg HO336.out).2.1); rintro e w21 ⟨rfl, hb⟩; refine ⟨_, rfl, ?_⟩; have n0_ := Aside0.mk (Kd.zx (by refine sqR ?_; exact (Kd.zn (Kd.zp (p := ⟨gb337, 1, none⟩) (Kd.zp (p := ⟨gb337, 0, none⟩) (Kd.zz HO336.out BK337.out (by decide)) (fun _ hk => hk.2) (.int .i64 a0)) (fun _ hk => hk.2) (.slice Ao17 t334.length co17)) (fun _ h_ => h_.1))) hb); have n1_ := Aside0.mk (zd (g := gb333) (o := .cells #[.int .i64 0, .slice none 0 0] 24 (0, 0)) (by refine sqK ?_; refine z6 ?_ NB333_337.out _; refine sqK ?_; refine z6 ?_ NB333_337.out _; refine sqK ?_; exact BK333.out) hb); have n2_ := Aside0.mk (zd (g := gb337) (o := .cells #[.int .i64 a0, .slice Ao17 t334.length co17] 24 (0, 0)) (by refine sqK ?_; refine zF (cs := #[.int .i64 a0, .slice none 0 0]) ?_ 1 _ rfl; refine sqK ?_; refine zF (cs := #[.int .i64 0, .slice none 0 0]) ?_ 0 _ rfl; refine sqK ?_; exact BK337.out) hb); have n3_ := Aside0.mk (zc sqB hb); clear HO336; clear BK333; clear BK337; clear HB; have HO336 := n0_; have BK333 := n1_; have BK337 := n2_; have HB := n3_; clear n0_ n1_ n2_ n3_; (try clear hb); (try clear hb2); (try clear hk); (try clear hi); have hcz22_0 : w21.cell? ⟨gb333, 0, none⟩ = some (.int .i64 0) := (za BK333.out 0).trans rfl; have hcz22_1 : w21.cell? ⟨gb333, 1, none⟩ = some (.slice none 0 0) := (za BK333.out 1).trans rfl; have hfz22_0 := zb BK333.out 0; have hfz22_1 := zb BK333.out 1))
  refine bodyPost_ret (qz rfl _ _ gb333 24 #[.int .i64 0, .slice none 0 0] (0, 0) _ rfl (by refine sqK ?_; refine zF (cs := #[.int .i64 0, .slice none 0 0]) ?_ 1 _ rfl; refine sqK ?_; refine zF (cs := #[.int .i64 0, .slice none 0 0]) ?_ 0 _ rfl; refine sqK ?_; exact BK333.out) Tryz.underlying24 rfl (by kernel_rfl)) rfl ?_
  exact ⟨_, sqE, sqN, sqB⟩

end Go.Proofs.YteggmbhcnhbamaaGreat.F
end
section
namespace Go.Proofs.YteggmbhcnhbamaaGreat.F
open Go.RowKit Go.Proofs.YteggmbhcnhbamaaGreatW.PrintWords Go.Proofs.YteggmbhcnhbamaaGreatW.PrintLast Go.Proofs.YteggmbhcnhbamaaGreatW.PrintMore
set_option linter.unusedSimpArgs false
set_option linter.unusedVariables false
def zN.q (s t : Int) : Option Bool := if t = s then some false else q2.f t s
def zN.l0 : Nat → List Int → List Int → List Int → Int → Option (List Int)
  | 0, _, _, _, _ => none
  | k + 1, l, out, ss, x => if x < (ss.length : Int) then (if 0 ≤ x then ((Zv (zN.q (rd ss x)) l).bind fun b => if b = true then zN.l0 k l out ss (wrap64 (x + 1)) else (if out.length < 17592186044416 then zN.l0 k l (out ++ [rd ss x]) ss (wrap64 (x + 1)) else none)) else none) else some out
def zN.f (k : Nat) (l : List Int) : Option (List Int) := if l.length ≤ 17592186044416 then ((qC.f k l).bind fun t => if t = true then ((qS.f k l).bind fun ss => zN.l0 k l [] ss 0) else some []) else none
theorem zN.pred (s : Int) (ga : Nat) (w : World) (ha : w.heap[ga]? = some (.cells #[.int .i64 s] 3 (0, 0))) : ZH 81 #[.pointer (some ⟨ga, 0, none⟩)] (zN.q s) w := by
  intro W x r hq hb
  unfold zN.q at hq
  have hc0 : W.cell? ⟨ga, 0, none⟩ = some (.int .i64 s) := (za (zd ha hb) 0).trans rfl
  by_cases e : x = s
  · rw [if_pos e] at hq
    obtain rfl := Option.some.inj hq
    have e0 : (x != s) = false := bne_eq_false_iff_eq.mpr e
    clear ha hb hq e
    go_enter Tryz.func81, Tryz.ntmps81
    go_wp2
    go_ret
    exact ⟨rfl, by repeat (first | exact Below.refl _ _ | apply qg | apply qb)⟩
  · rw [if_neg e] at hq
    have e0 : (x != s) = true := bne_iff_ne.mpr e
    have H := Aside0.mk hq
    clear ha hb hq e
    go_enter Tryz.func81, Tryz.ntmps81
    go_wp2_with (go_at_call 45; (try simp only [zi, zj]); (with_reducible refine (q2.calls x s r _ H.out).mono ?_); rintro e w' ⟨rfl, ⟨nd, rfl⟩⟩)
    go_ret
    exact ⟨rfl, by repeat (first | exact Below.refl _ _ | apply qg | apply qb)⟩
theorem zN.calls (k : Nat) (A0 : Option Addr) (c0 : Nat) (l0 : List Int) (r : List Int) (w : World) (hr0 : Kd.C (Kd.int .i64) w A0 l0.length l0) (hc0 : l0.length ≤ c0) (h : zN.f k l0 = some r) :
    Calls Tryz.prog 70 #[.slice A0 l0.length c0] w fun e w' => ∃ v0_ : Value, e = .returned (v0_) ∧ Kd.R (Kd.int .i64) 3 w' w.heap.size (fun _ => True) v0_ r ∧ Below w.heap.size w w' := by
  unfold zN.f at h
  by_cases hl : l0.length ≤ 17592186044416
  case neg => rw [if_neg hl] at h; exact absurd h (by simp)
  rw [if_pos hl] at h
  obtain ⟨t, ht, h⟩ := Option.bind_eq_some_iff.mp h
  have HR := Aside0.mk hr0
  have HC := Aside0.mk hc0
  have HS := Aside0.mk hl
  have HT := Aside0.mk ht
  have HB := Aside0.mk (Below.refl w.heap.size w)
  obtain ⟨yL, hyL⟩ : ∃ y_ : List Int, y_ = (([] : List Int)) := ⟨_, rfl⟩
  cases t with
  | false =>
    have hn : r = [] := by simpa using h.symm
    subst hn
    clear h hr0 hc0 hl ht
    have NyL := Aside0.mk hyL
    clear hyL
    go_enter Tryz.func70, Tryz.ntmps70
    go_wp2_with (first
      | ((with_reducible refine zm (N := 6) rfl ?_); refine Kd.jy (Kd.int .i64) _ 3 ?hg (N := 6) ?hd (xs := ([] : List Int)) (inner := []) (ok := fun _ => True) (okp := fun _ => True) ?hr ?hp (fun _ hk => hk) trivial (Below.refl _ _) (Nat.le_refl _) (by simp) ?_; (case hd => rfl); (case hg => rfl); (case hr => exact sqG); (case hp => exact (qK.none _ _)); intro vL wL hoL hb hg_ hnew_; clear hg_ hnew_; clear hoL; have n1_ := Aside0.mk (zc sqB hb); clear HB; have HB := n1_; clear n1_; clear hb)
      | ((with_reducible refine ze (f := 41) rfl ?_); refine zv (some 8) rfl rfl Tryz.func41 (by kernel_rfl) rfl #[.slice A0 l0.length c0] rfl (by (try simp only [List.map_toArray, List.map_cons, List.map_nil]); first | done | rfl) ?_; (with_reducible refine (qC.calls k _ _ l0 false _ ?side1 HC.out HT.out).mono ?_); (case side1 => exact sqC (Kd.zt HR.out HB.out)); rintro e w' ⟨rfl, ⟨nd, rfl⟩⟩; refine ⟨_, rfl, ?_⟩))
    go_ret
    exact ⟨_, rfl, Kd.Js _ _ _ _ _, sqB⟩
  | true =>
    have h : ((qS.f k l0).bind fun ss => zN.l0 k l0 [] ss 0) = some r := by simpa using h
    obtain ⟨ss, hss, h⟩ := Option.bind_eq_some_iff.mp h
    rw [← hyL] at h
    have NyL := Aside0.mk hyL
    have HSS := Aside0.mk hss
    have H' := Aside0.mk h
    clear h hr0 hc0 hl ht hyL hss
    go_enter Tryz.func70, Tryz.ntmps70
    go_wp2_with (first
      | ((with_reducible refine zm (N := 6) rfl ?_); refine Kd.jy (Kd.int .i64) _ 3 ?hg (N := 6) ?hd (xs := ([] : List Int)) (inner := []) (ok := fun _ => True) (okp := fun _ => True) ?hr ?hp (fun _ hk => hk) trivial (Below.refl _ _) (Nat.le_refl _) (by simp) ?_; (case hd => rfl); (case hg => rfl); (case hr => exact sqG); (case hp => exact (qK.none _ _)); intro vL wL hoL hb hg_ hnew_; clear hg_ hnew_; (first | rw [← NyL.out] at hoL | (simp only [Int.reduceToNat] at hoL; rw [← NyL.out] at hoL)); have n0_ := Aside0.mk (Kd.zD hoL (zh sqB)); have n1_ := Aside0.mk (zc sqB hb); clear HB; have HOL := n0_; have HB := n1_; clear n0_ n1_; clear hb hoL)
      | ((with_reducible refine ze (f := 41) rfl ?_); refine zv (some 8) rfl rfl Tryz.func41 (by kernel_rfl) rfl #[.slice A0 l0.length c0] rfl (by (try simp only [List.map_toArray, List.map_cons, List.map_nil]); first | done | rfl) ?_; (with_reducible refine (qC.calls k _ _ l0 true _ ?side1 HC.out HT.out).mono ?_); (case side1 => exact sqC (Kd.zt HR.out HB.out)); rintro e w' ⟨rfl, ⟨nd, rfl⟩⟩; refine ⟨_, rfl, ?_⟩)
      | ((with_reducible refine ze (f := 42) rfl ?_); refine zv (some 11) rfl rfl Tryz.func42 (by kernel_rfl) rfl #[.slice A0 l0.length c0] rfl (by (try simp only [List.map_toArray, List.map_cons, List.map_nil]); first | done | rfl) ?_; (with_reducible refine (qS.calls k _ _ l0 ss _ ?side1 HC.out HSS.out).mono ?_); (case side1 => exact sqC (Kd.zt HR.out HB.out)); rintro e w8 ⟨vS, rfl, ho0, hb⟩; refine ⟨_, rfl, ?_⟩; have n0_ := Aside0.mk (Kd.zw (sqR HOL.out) (Kd.zQ ho0) hb); have n1_ := Aside0.mk (Kd.zD (Kd.zP ho0 (Kd.qt (sqR HOL.out))) (zh sqB)); have n3_ := Aside0.mk (zc sqB hb); clear HOL; clear HB; have HOL := n0_; have HOS := n1_; have HB := n3_; clear n0_ n1_ n3_; clear hb ho0; obtain ⟨Ao, co, eo⟩ := Kd.zK HOS.out; subst eo))
    go_loopg [3, 13] k (fun kq v3 v13 w' => ∃ (out : List Int) (x : Int), v13 = .int .i64 x ∧ Aside0 (zN.l0 kq l0 out ss x = some r) ∧ Aside0 (kq ≤ k) ∧ Aside0 (Kd.R (Kd.int .i64) 3 w' w.heap.size (fun k_ => some k_ ≠ ((.slice Ao ss.length co) : Value).ownBlock) v3 out) ∧ Aside0 (Kd.R (Kd.int .i64) 3 w' w.heap.size (fun k_ => some k_ ≠ (v3 : Value).ownBlock) (.slice Ao ss.length co) ss) ∧ Aside0 (Below w.heap.size w w'))
    case atStart => exact ⟨yL, 0, rfl, H', ⟨Nat.le_refl _⟩, ⟨by refine sqR ?_; exact Kd.zn HOL.out (fun _ hk => hk.2)⟩, ⟨by refine sqR ?_; exact Kd.zn HOS.out (fun _ hk => hk.2)⟩, ⟨sqB⟩⟩
    case round =>
      clear H' HOL HOS HB
      obtain ⟨out, x, rfl, HA, HK1, HO, HOS, HB⟩ := hrel
      cases gk with
      | zero => exact absurd HA.out (by simp [zN.l0])
      | succ k1 =>
        have H := HA.out
        clear HA
        simp only [zN.l0] at H
        by_cases c1 : x < (ss.length : Int)
        · rw [if_pos c1] at H
          by_cases c2 : 0 ≤ x
          · rw [if_pos c2] at H
            obtain ⟨b, hb, H⟩ := Option.bind_eq_some_iff.mp H
            have AB := Aside0.mk hb
            clear hb
            have c1b0 : decide (x < (ss.length : Int)) = true := decide_eq_true c1
            have c2b0 : decide (0 ≤ x) = true := decide_eq_true c2
            obtain ⟨ad1, e1, hx1⟩ := Kd.zT (Kd.zg HOS.out).2.2 x c2 c1
            cases e1
            replace c1 := eq_true c1
            replace c2 := eq_true c2
            obtain ⟨y, hy⟩ : ∃ y_ : Int, y_ = rd ss x := ⟨_, rfl⟩
            rw [← hy] at AB H hx1
            clear hy
            cases b with
            | true =>
              have H' := Aside0.mk (show zN.l0 k1 l0 out ss (wrap64 (x + 1)) = some r by simpa using H)
              clear H
              go_wp2_with (first
                | ((with_reducible refine zm (N := 5) rfl ?_); refine zq ?hg (N := 5) ?hd (cs := #[.int .i64 0]) (t := 3) ?hr ?_; (case hd => rfl); (case hg => rfl); (case hr => exact sqG); intro ga hg w7 hbox hb; have HG3 := Aside0.mk hg; have BKa := Aside0.mk hbox; have HBa := Aside0.mk hb; have hca : w7.cell? ⟨ga, 0, none⟩ = some (.int .i64 0) := (za BKa.out 0).trans rfl; have hfa := zb BKa.out 0; clear hg hbox hb hx1)
                | ((with_reducible refine j3 (t := 3) (p := 5) rfl ?_); refine jM (t := 3) (p := 5) (v := ?vo_w8) (w1 := (w7.setCell ⟨ga, 0, none⟩ (.int .i64 y))) ?hg ?ho ?hn ?hr ?_; (case ho => rfl); (case hg => rfl); (case hn => rfl); (case hr => exact sqG); intro w8 hw; have hp_ := yY (v := .int .i64 y) HG3.out BKa.out HBa.out; rw [← hw] at hp_; have BK8 := Aside0.mk hp_.1; have HB8 := Aside0.mk hp_.2; clear hp_ hw BKa HBa HG3 hca hfa; have BKa := BK8; clear BK8))
              refine (jc (zN.q y) _ _ (enters_of Tryz.func81 (by kernel_rfl) rfl) _ _ l0 true _ (zN.pred y _ _ BKa.out) (Kd.zt HR.out (zc HB.out HB8.out)) HC.out HS.out AB.out).mono ?_
              rintro e w9 ⟨rfl, hb⟩
              have HB9 := Aside0.mk (zc HB8.out hb)
              have n0_ := Aside0.mk (Kd.zx HO.out HB9.out)
              have n1_ := Aside0.mk (Kd.zx HOS.out HB9.out)
              have n2_ := Aside0.mk (zc HB.out HB9.out)
              clear HO HOS HB hb HB8 HB9 BKa
              have HO := n0_
              have HOS := n1_
              have HB := n2_
              clear n0_ n1_ n2_
              go_wp2
              go_roundg k1
              case measure => have := HK1.out; omega
              case rel => exact ⟨out, wrap64 (x + 1), rfl, H', ⟨by have := HK1.out; omega⟩, ⟨sqR HO.out⟩, ⟨sqR HOS.out⟩, ⟨sqB⟩⟩
            | false =>
              have H1 : (if out.length < 17592186044416 then zN.l0 k1 l0 (out ++ [y]) ss (wrap64 (x + 1)) else none) = some r := by simpa using H
              clear H
              by_cases c3 : out.length < 17592186044416
              case neg => rw [if_neg c3] at H1; exact absurd H1 (by simp)
              rw [if_pos c3] at H1
              have HLen := Aside0.mk c3
              clear c3
              obtain ⟨yA, hyA⟩ : ∃ y_ : List Int, y_ = (out ++ [y]) := ⟨_, rfl⟩
              rw [← hyA] at H1
              have NyA := Aside0.mk hyA
              have H' := Aside0.mk H1
              clear H1 hyA
              go_wp2_with (first
                | ((with_reducible refine zm (N := 5) rfl ?_); refine zq ?hg (N := 5) ?hd (cs := #[.int .i64 0]) (t := 3) ?hr ?_; (case hd => rfl); (case hg => rfl); (case hr => exact sqG); intro ga hg w7 hbox hb; have HG3 := Aside0.mk hg; have BKa := Aside0.mk hbox; have HBa := Aside0.mk hb; have hca : w7.cell? ⟨ga, 0, none⟩ = some (.int .i64 0) := (za BKa.out 0).trans rfl; have hfa := zb BKa.out 0; clear hg hbox hb hx1)
                | ((with_reducible refine j3 (t := 3) (p := 5) rfl ?_); refine jM (t := 3) (p := 5) (v := ?vo_w8) (w1 := (w7.setCell ⟨ga, 0, none⟩ (.int .i64 y))) ?hg ?ho ?hn ?hr ?_; (case ho => rfl); (case hg => rfl); (case hn => rfl); (case hr => exact sqG); intro w8 hw; have hp_ := yY (v := .int .i64 y) HG3.out BKa.out HBa.out; rw [← hw] at hp_; have BK8 := Aside0.mk hp_.1; have HB8 := Aside0.mk hp_.2; clear hp_ hw BKa HBa HG3 hca hfa; have BKa := BK8; clear BK8))
              refine (jc (zN.q y) _ _ (enters_of Tryz.func81 (by kernel_rfl) rfl) _ _ l0 false _ (zN.pred y _ _ BKa.out) (Kd.zt HR.out (zc HB.out HB8.out)) HC.out HS.out AB.out).mono ?_
              rintro e w9 ⟨rfl, hb⟩
              have hca : w9.cell? ⟨ga, 0, none⟩ = some (.int .i64 y) := (za (zd BKa.out hb) 0).trans rfl
              have HB9 := Aside0.mk (zc HB8.out hb)
              have n0_ := Aside0.mk (Kd.zx HO.out HB9.out)
              have n1_ := Aside0.mk (Kd.zx HOS.out HB9.out)
              have n2_ := Aside0.mk (zc HB.out HB9.out)
              clear HO HOS HB hb HB8 HB9 BKa
              have HO := n0_
              have HOS := n1_
              have HB := n2_
              clear n0_ n1_ n2_
              go_wp2_with ((with_reducible refine qB (b := .append) (xs := #[.tmp 21, .tmp 23]) rfl ?_); at_builtin; refine Kd.ji (Kd.int .i64) (w0 := w) w.heap.size rfl (.tmp 21) (.tmp 23) 22 3 (.int .i64 0) 8 rfl Tryz.underlying22 jH rfl (by decide) (by omega) u3 out y [.int .i64 y] (fun k_ => some k_ ≠ (.slice (some ad1) ss.length co : Value).ownBlock) (fun _ => False) rfl rfl ?aP (fun _ hk => hk.elim) ?aF ?aO ?aB ?aS ?aL ?_; (case aP => exact rfl); (case aB => exact sqB); (case aF => exact (fun k_ hk => Kd.yG (Kd.qt (sqR HOS.out)) k_ hk)); (case aO => exact (sqR HO.out)); (case aS => exact (zh sqB)); (case aL => have := HLen.out; omega); intro v230 w18 ho hb hg hat; rw [← NyA.out] at ho; have n0_ := Aside0.mk (Kd.vm (ok := (fun _ => True)) (by refine sqR ?_; exact Kd.zn HOS.out (fun _ hk => ⟨trivial, hk⟩)) hg hat); have n2_ := Aside0.mk (hb); have n3_ := Aside0.mk (ho); clear HOS; clear HB; clear HO; have HOS := n0_; have HB := n2_; have HO := n3_; clear n0_ n2_ n3_; clear ho hb hg hat hca)
              go_roundg k1
              case measure => have := HK1.out; omega
              case rel => exact ⟨yA, wrap64 (x + 1), rfl, H', ⟨by have := HK1.out; omega⟩, ⟨sqR HO.out⟩, ⟨by refine sqR ?_; exact Kd.zn HOS.out (fun _ hk => hk.2)⟩, ⟨sqB⟩⟩
          · rw [if_neg c2] at H; exact absurd H (by simp)
        · rw [if_neg c1] at H
          have c1b0 : decide (x < (ss.length : Int)) = false := decide_eq_false c1
          clear c1
          obtain rfl := Option.some.inj H
          go_wp2
          go_ret
          exact ⟨_, rfl, by refine sqR ?_; exact Kd.zn HO.out (fun _ _ => trivial), sqB⟩
end Go.Proofs.YteggmbhcnhbamaaGreat.F
end
section
namespace Go.Proofs.YteggmbhcnhbamaaGreat.F
open Go.RowKit Go.Proofs.YteggmbhcnhbamaaGreatW.PrintWords Go.Proofs.YteggmbhcnhbamaaGreatW.PrintLast Go.Proofs.YteggmbhcnhbamaaGreatW.PrintMore
set_option linter.unusedSimpArgs false
set_option linter.unusedVariables false
def qm.q (k : Nat) (n : Int) (l : List Int) (s : Int) : Option Bool := (qq.f k n l s).bind fun t => some (!t)
def qm.f (k : Nat) (a0_0 : Int) (l0_1 : List Int) : Option (List Int) := (qf.f k a0_0 l0_1).bind fun t => if t = true then ((vP (qm.q k a0_0 l0_1) k a0_0 [] 0).bind fun L => zN.f k L) else some []
theorem qm.pred (k : Nat) (l : List Int) (n : Int) (A : Option Addr) (c gm : Nat) (w : World) (hm : w.heap[gm]? = some (.cells #[.int .i64 n, .slice A l.length c] 24 (0, 0)))
    (hr : Kd.C (Kd.int .i64) w A l.length l) (hc : l.length ≤ c) : ZH 71 #[.pointer (some ⟨gm, 0, none⟩)] (qm.q k n l) w := by
  intro W x r hq hb
  unfold qm.q at hq
  have hc0 : W.cell? ⟨gm, 0, none⟩ = some (.int .i64 n) := (za (zd hm hb) 0).trans rfl
  have hc1 : W.cell? ⟨gm, 1, none⟩ = some (.slice A l.length c) := (za (zd hm hb) 1).trans rfl
  have HR := Aside0.mk (Kd.zt hr hb)
  have HC := Aside0.mk hc
  have hu := Tryz.underlying24
  obtain ⟨t, ht, hq⟩ := Option.bind_eq_some_iff.mp hq
  obtain rfl := Option.some.inj hq
  have H := Aside0.mk ht
  clear hq ht hm hr hc hb
  go_enter Tryz.func71, Tryz.ntmps71
  go_wp2_with (go_at_call 72; (try simp only [zi, zj]); (with_reducible refine (qq.calls k n _ _ l x t _ HR.out HC.out H.out).mono ?_); rintro e w' ⟨rfl, hb⟩)
  go_ret
  exact ⟨by first | rfl | simp, by first | exact hb | (obtain ⟨nd, rfl⟩ := hb; exact qb (Below.refl _ _) nd)⟩
theorem qm.calls (k : Nat) (a0_0 : Int) (A0_1 : Option Addr) (c0_1 : Nat) (l0_1 : List Int) (r : List Int) (w : World) (hr0_1 : Kd.C (Kd.int .i64) w A0_1 l0_1.length l0_1) (hc0_1 : l0_1.length ≤ c0_1) (h : qm.f k a0_0 l0_1 = some r) :
    Calls Tryz.prog 56 #[.agg #[.int .i64 a0_0, .slice A0_1 l0_1.length c0_1]] w fun e w' => ∃ v0_ : Value, e = .returned (v0_) ∧ Kd.R (Kd.int .i64) 3 w' w.heap.size (fun _ => True) v0_ r ∧ Below w.heap.size w w' := by
  have hum := Tryz.underlying24
  unfold qm.f at h
  obtain ⟨t, ht, h⟩ := Option.bind_eq_some_iff.mp h
  have HR := Aside0.mk hr0_1
  have HC := Aside0.mk hc0_1
  have HT := Aside0.mk ht
  have H := Aside0.mk h
  clear hr0_1 hc0_1 h ht
  cases t with
  | false =>
    have hn : r = [] := by have := H.out; simpa using this.symm
    subst hn
    clear H
    go_enter Tryz.func56, Tryz.ntmps56
    go_wp2_with (first
      | ((with_reducible refine zm (N := 1) rfl ?_); refine zq ?hg (N := 1) ?hd (cs := #[.int .i64 a0_0, .slice A0_1 l0_1.length c0_1]) (t := 24) ?hr ?_; (case hd => rfl); (case hg => rfl); (case hr => exact sqG); intro gm hg w4 hbox hb; have HB1 := Aside0.mk hb; have BKm := Aside0.mk hbox; have hcz0 : w4.cell? ⟨gm, 0, none⟩ = some (.int .i64 a0_0) := (za BKm.out 0).trans rfl; have hcz1 : w4.cell? ⟨gm, 1, none⟩ = some (.slice A0_1 l0_1.length c0_1) := (za BKm.out 1).trans rfl; clear hb hbox hg)
      | (go_at_call 46; (try simp only [zi, zj]); (with_reducible refine (qf.calls k a0_0 _ _ l0_1 false _ (Kd.zt HR.out HB1.out) HC.out HT.out).mono ?_); rintro e w' ⟨rfl, hb⟩; have HB2 := Aside0.mk (zc HB1.out hb); clear hb hcz0 hcz1 HB1))
    go_ret
    exact ⟨_, rfl, Kd.Js _ _ _ _ _, HB2.out⟩
  | true =>
    have H1 : ((vP (qm.q k a0_0 l0_1) k a0_0 [] 0).bind fun L => zN.f k L) = some r := by have := H.out; simpa using this
    obtain ⟨L, hL, hM⟩ := Option.bind_eq_some_iff.mp H1
    have H' := Aside0.mk hL
    have HM := Aside0.mk hM
    clear H1 hL hM
    clear H
    go_enter Tryz.func56, Tryz.ntmps56
    go_wp2_with (first
      | ((with_reducible refine zm (N := 1) rfl ?_); refine zq ?hg (N := 1) ?hd (cs := #[.int .i64 a0_0, .slice A0_1 l0_1.length c0_1]) (t := 24) ?hr ?_; (case hd => rfl); (case hg => rfl); (case hr => exact sqG); intro gm hg w4 hbox hb; have HB1 := Aside0.mk hb; have BKm := Aside0.mk hbox; have hcz0 : w4.cell? ⟨gm, 0, none⟩ = some (.int .i64 a0_0) := (za BKm.out 0).trans rfl; have hcz1 : w4.cell? ⟨gm, 1, none⟩ = some (.slice A0_1 l0_1.length c0_1) := (za BKm.out 1).trans rfl; clear hb hbox hg)
      | (go_at_call 46; (try simp only [zi, zj]); (with_reducible refine (qf.calls k a0_0 _ _ l0_1 true _ (Kd.zt HR.out HB1.out) HC.out HT.out).mono ?_); rintro e w5 ⟨rfl, hb⟩; have HB2 := Aside0.mk (zc HB1.out hb); have BK2 := Aside0.mk (zd BKm.out hb); clear hb hcz0 hcz1 HB1 BKm; have hcz0 : w5.cell? ⟨gm, 0, none⟩ = some (.int .i64 a0_0) := (za BK2.out 0).trans rfl; have hcz1 : w5.cell? ⟨gm, 1, none⟩ = some (.slice A0_1 l0_1.length c0_1) := (za BK2.out 1).trans rfl))
    refine (vM (qm.q k a0_0 l0_1) _ _ (enters_of Tryz.func71 (by kernel_rfl) rfl) k a0_0 L _ (qm.pred k l0_1 a0_0 _ c0_1 gm _ BK2.out (Kd.zt HR.out HB2.out) HC.out) H'.out).mono ?_
    rintro e w9 ⟨v, rfl, ho, hb⟩
    obtain ⟨Ao, co, eo⟩ := Kd.zK ho
    subst eo
    have HO := Aside0.mk ho
    have HB := Aside0.mk (zc HB2.out hb)
    clear ho hb hcz0 hcz1
    go_wp2_with ((with_reducible refine ze (f := 70) rfl ?_); refine zv (some 10) rfl rfl Tryz.func70 (by kernel_rfl) rfl #[.slice Ao L.length co] rfl (by (try simp only [List.map_toArray, List.map_cons, List.map_nil]); first | done | rfl) ?_; (with_reducible refine (zN.calls k _ _ L r _ (Kd.zg HO.out).2.2 (Kd.zg HO.out).2.1 HM.out).mono ?_); rintro e w10 ⟨v10, rfl, ho, hb⟩; refine ⟨_, rfl, ?_⟩; have HO2 := Aside0.mk (Kd.zD ho (zh HB.out)); have HB3 := Aside0.mk (zc HB.out hb); clear ho hb HB HO)
    go_ret
    exact ⟨_, rfl, HO2.out, HB3.out⟩
end Go.Proofs.YteggmbhcnhbamaaGreat.F
end
section
namespace Go.Proofs.YteggmbhcnhbamaaGreat.F
open Go.RowKit Go.Proofs.YteggmbhcnhbamaaGreatW.PrintWords Go.Proofs.YteggmbhcnhbamaaGreatW.PrintLast Go.Proofs.YteggmbhcnhbamaaGreatW.PrintMore
set_option linter.unusedSimpArgs false
set_option linter.unusedVariables false
def zM.u (s : Int) (c : Int) : Option Bool := q2.f c s
def zM.q (l : List Int) (s : Int) : Option Bool := if l.length ≤ 17592186044416 then ((Zv (zM.u s) l).bind fun b => some (!b)) else none
def zM.f (k : Nat) (a0 : Int) (l1 : List Int) : Option (List Int) := vP (zM.q l1) k a0 [] 0
theorem zM.zbC (s : Int) (gs : Nat) (w : World) (hm : w.heap[gs]? = some (.cells #[.int .i64 s] 3 (0, 0))) : ZH 55 #[.pointer (some ⟨gs, 0, none⟩)] (zM.u s) w := by
  intro W x r hq hb
  unfold zM.u at hq
  have hc0 : W.cell? ⟨gs, 0, none⟩ = some (.int .i64 s) := (za (zd hm hb) 0).trans rfl
  have H := Aside0.mk hq
  clear hq hm hb
  go_enter Tryz.func55, Tryz.ntmps55
  go_wp2_with (go_at_call 45; (try simp only [zi, zj]); (with_reducible refine (q2.calls x s r _ H.out).mono ?_); rintro e w' ⟨rfl, ⟨nd, rfl⟩⟩)
  go_ret
  exact ⟨rfl, by repeat (first | exact Below.refl _ _ | apply qg | apply qb)⟩
theorem zM.pred (l : List Int) (A : Option Addr) (c gl : Nat) (w : World) (hm : w.heap[gl]? = some (.cells #[.slice A l.length c] 22 (0, 0)))
    (hr : Kd.C (Kd.int .i64) w A l.length l) (hc : l.length ≤ c) : ZH 54 #[.pointer (some ⟨gl, 0, none⟩)] (zM.q l) w := by
  intro W x r hq hb
  unfold zM.q at hq
  by_cases hl : l.length ≤ 17592186044416
  case neg => rw [if_neg hl] at hq; exact absurd hq (by simp)
  rw [if_pos hl] at hq
  obtain ⟨b, hany, hq⟩ := Option.bind_eq_some_iff.mp hq
  obtain rfl := Option.some.inj hq
  have BKl := Aside0.mk (zd hm hb)
  have hc0 : W.cell? ⟨gl, 0, none⟩ = some (.slice A l.length c) := (za BKl.out 0).trans rfl
  have HR := Aside0.mk (Kd.zt hr hb)
  have HC := Aside0.mk hc
  have HL := Aside0.mk hl
  have H := Aside0.mk hany
  clear hq hm hr hc hb hl hany
  go_enter Tryz.func54, Tryz.ntmps54
  go_wp2_with ((with_reducible refine zm (N := 2) rfl ?_); refine zq ?hg (N := 2) ?hd (cs := #[.int .i64 x]) (t := 3) ?hr ?_; (case hd => rfl); (case hg => rfl); (case hr => exact sqG); intro gs hg ws hbox hb; have HBs := Aside0.mk hb; have BKs := Aside0.mk hbox; clear hc0; have hcl : ws.cell? ⟨gl, 0, none⟩ = some (.slice A l.length c) := (za (zd BKl.out HBs.out) 0).trans rfl; clear hb hbox hg)
  refine (jc (zM.u x) _ _ (enters_of Tryz.func55 (by kernel_rfl) rfl) _ _ l b _ (zM.zbC x gs _ BKs.out) (Kd.zt HR.out HBs.out) HC.out HL.out H.out).mono ?_
  rintro e w7 ⟨rfl, hb⟩
  have HB4 := Aside0.mk (zc HBs.out hb)
  clear hb hcl
  go_wp2
  go_ret
  exact ⟨by first | rfl | simp, HB4.out⟩
end Go.Proofs.YteggmbhcnhbamaaGreat.F
end
