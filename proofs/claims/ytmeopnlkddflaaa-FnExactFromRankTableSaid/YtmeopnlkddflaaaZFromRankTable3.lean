/- Several texts of this session in one: GvFromRankTable, Fx6, Base, Bits, Loops, LSets, Mat, LFamily, LMatroid, LRank, LTable, LSetsOf, LLists, LSame. Conditions: as each theorem says. -/
import Derived.Test.YtmeopnlkddflaaaZFromRankTable0
import Derived.Test.YtmeopnlkddflaaaZFromRankTable1
import Derived.Test.YtmeopnlkddflaaaZFromRankTable2
import Derived.Shelf.Abstract
import Derived.Laws.BitsLemmas
set_option maxHeartbeats 8000000
set_option maxRecDepth 100000
section
namespace Go.Proofs.Ytmeopnlkddflaaa.F
open Go.RowKit Go.Proofs.YtmeopnlkddflaaaW.PrintWords Go.Proofs.YtmeopnlkddflaaaW.PrintLast Go.Proofs.YtmeopnlkddflaaaW.PrintMore
attribute [local go_sem] q4 q6 jz jx qW qT qZ q3   -- for this text's walks alone
set_option linter.unusedVariables false
set_option linter.unusedSimpArgs false

def zf.j0 : Nat → Int → List Int → Bool → Option (Int × List Int × Bool)
  | 0, _, _, _ => none
  | k + 1, x0, x3, x17 => if x17 = true then (some (0, ([] : List Int), false)) else ((zX.f x0).bind fun t213 => (if 0 ≤ t213 then (if t213 < (x3.length : Int) then ((zv.f k x0 x3 (rd x3 t213)).bind fun t215 => ((zZ.f k x0 t215).bind fun t219 => (if t219 = true then ((zu.f k x0 t215).bind fun t220 => ((zp.f k t220 x3).bind fun t223 => (if t223 = true then (some (x0, t215, true)) else (some (0, ([] : List Int), false))))) else (some (0, ([] : List Int), false))))) else (none)) else (none)))
def zf.f (k : Nat) (a0 : Int) (l1 : List Int) : Option (Int × List Int × Bool) := (z7.f a0).bind fun t212 => (if t212 = true then (if 0 ≤ a0 then (zf.j0 k a0 l1 ((l1.length : Int) != (shl .i64 1 a0))) else (none)) else (zf.j0 k a0 l1 true))
def zf.T1 : Bool × List (List Nat × List Nat) := (true, [([], []), ([0], [0]), ([1], [1]), ([2, 1], [2]), ([3], [3]), ([4, 3], [3, 4]), ([3], [3]), ([6, 3], [3, 6]), ([5, 7, 3], [3, 5, 7]), ([3, 8], [3, 8])])
def zf.B1 : List Nat := [0, 1, 3, 7, 15, 31, 15, 79, 255, 511]
theorem zf.tab1 : jv .any (opsOf Try.f31 1) = zf.T1 := by kernel_rfl
theorem zf.QN : j5 zf.T1.2 zf.B1 = true := by kernel_rfl
def zf.T5 : Bool × List (List Nat × List Nat) := (true, [([], []), ([0], [0]), ([1], [1]), ([2, 1], [2]), ([3], [3]), ([4, 3, 3], [3, 4]), ([3], [3]), ([5, 6, 5, 3], [3, 5, 6]), ([7, 3], [3, 7]), ([3, 8], [3, 8])])
def zf.B5 : List Nat := [0, 1, 3, 7, 15, 31, 15, 127, 255, 511]
theorem zf.QT : jv .any (opsOf Try.f31 5) = zf.T5 := by kernel_rfl
theorem zf.Qb : j5 zf.T5.2 zf.B5 = true := by kernel_rfl
theorem zf.calls (k : Nat) (a0 : Int) (A1 : Option Addr) (c1 : Nat) (l1 : List Int) (r1 : Int) (r2 : List Int) (r3 : Bool) (w : World) (hr1 : Kd.C (Kd.int .i64) w A1 l1.length l1) (hc1 : l1.length ≤ c1) (h : zf.f k a0 l1 = some (r1, r2, r3)) :
    Calls Try.prog 31 #[.int .i64 a0, .slice A1 l1.length c1] w fun e w' => ∃ v1_ : Value, e = .returned (.tuple #[.agg #[.int .i64 r1, v1_], .bool r3]) ∧ Kd.R (Kd.int .i64) 3 w' w.heap.size (fun _ => True) v1_ r2 ∧ Below w.heap.size w w' := by
  have hu27 := Try.underlying27
  have HR1 := Aside0.mk hr1
  have HC1 := Aside0.mk hc1
  clear hr1 hc1
  have HB := Aside0.mk (Below.refl w.heap.size w)
  have H : ((z7.f a0).bind fun t212 => (if t212 = true then (if 0 ≤ a0 then (zf.j0 k a0 l1 ((l1.length : Int) != (shl .i64 1 a0))) else (none)) else (zf.j0 k a0 l1 true))) = some (r1, r2, r3) := h
  clear h
  have HC3 := Aside0.mk H
  clear H
  go_enter Try.func31, Try.ntmps31
  go_upto_region 1 with (first
    | ((with_reducible refine zr (N := 3) rfl ?_); (try (refine zP (by rfl) ?_; dsimp only)); refine zq ?hg (N := 3) ?hd (cs := #[.slice A1 l1.length c1]) (t := 22) ?hr ?_; (case hd => rfl); (case hg => rfl); (case hr => exact sqG); intro gl hg wl hbox hb; have HBl := Aside0.mk hb; have BKl := Aside0.mk hbox; have nr_ := Aside0.mk (Kd.zH HR1.out hb); clear HR1 HB; have HR1 := nr_; clear nr_; have HB := Aside0.mk (Below.refl wl.heap.size wl); have hcl : wl.cell? ⟨gl, 0, none⟩ = some (.slice A1 l1.length c1) := (za BKl.out 0).trans rfl; clear hb hbox hg)
    | ((with_reducible refine zr (N := 4) rfl ?_); (try (refine zP (by rfl) ?_; dsimp only)); refine zq ?hg (N := 4) ?hd (cs := #[.int .i64 0, .slice none 0 0]) (t := 27) ?hr ?_; (case hd => rfl); (case hg => rfl); (case hr => exact sqG); intro gb211 hg w4 hbox hb; have n0_ := Aside0.mk (ze sqB hb); have n1_ := Aside0.mk (hbox); have n2_ := Aside0.mk ((sqS hg : wl.heap.size ≤ gb211)); have n3_ := Aside0.mk ((sqS hg : wl.heap.size ≤ gb211)); clear HB; have HB := n0_; have BK211 := n1_; have GW211 := n2_; have GE211 := n3_; clear n0_ n1_ n2_ n3_; clear hb hbox hg; (try clear hcl); have hcl : World.cell? _ ⟨gl, 0, none⟩ = some (.slice A1 l1.length c1) := (za (zd BKl.out HB.out) 0).trans rfl))
  (try simp only [Act.put, List.setIfInBounds_toArray, List.set_cons_zero, List.set_cons_succ])
  go_cut [17] (fun v17 wc => ∃ (kq : Nat) (x17_2 : Bool), v17 = .bool x17_2 ∧ Aside0 (zf.j0 kq a0 l1 x17_2 = some (r1, r2, r3)) ∧ Aside0 (kq ≤ k) ∧ Aside0 (wc.heap[gb211]? = some (.cells #[.int .i64 0, (.slice none 0 0)] 27 (0, 0))) ∧ Aside0 (Below wl.heap.size wl wc))
  case first =>
    have H := HC3.out
    clear HC3
    replace H := Option.bind_eq_some_iff.mp H
    obtain ⟨t212, A50, H⟩ := H
    replace H : (if t212 = true then (if 0 ≤ a0 then (zf.j0 k a0 l1 ((l1.length : Int) != (shl .i64 1 a0))) else (none)) else (zf.j0 k a0 l1 true)) = some (r1, r2, r3) := H
    have A5 := Aside0.mk A50
    clear A50
    by_cases c6 : t212 = true
    · subst c6
      have H1 : (if 0 ≤ a0 then (zf.j0 k a0 l1 ((l1.length : Int) != (shl .i64 1 a0))) else (none)) = some (r1, r2, r3) := by rw [if_pos rfl] at H; exact H
      clear H
      have H := H1
      clear H1
      by_cases c7 : 0 ≤ a0
      · rw [if_pos c7] at H
        have c7b0 := eq_true c7
        have c7b1 : decide (0 ≤ a0) = true := decide_eq_true c7
        clear c7
        obtain ⟨ji8, hji8⟩ : ∃ j_ : Int, (shl .i64 1 a0) = j_ := ⟨_, rfl⟩
        replace H : (zf.j0 k a0 l1 ((l1.length : Int) != (ji8))) = some (r1, r2, r3) := by first | (rw [hji8] at H; exact H) | (simp only [hji8] at H ⊢; exact H)
        (try rw [hji8] at A5)
        have hji8_ : (IntKind.i64.wrap (1 * 2 ^ min a0.toNat 64)) = ji8 := hji8
        have hji8z : a0 ≤ 64 → (IntKind.i64.wrap (1 * 2 ^ a0.toNat)) = ji8 := qY hji8
        have hji8u : (IntKind.i64.wrap (2 ^ min a0.toNat 64)) = ji8 := by have h_ := hji8_; rw [Int.one_mul] at h_; exact h_
        have hji8v : a0 ≤ 64 → (IntKind.i64.wrap (2 ^ a0.toNat)) = ji8 := fun hle_ => by have h_ := hji8z hle_; rw [Int.one_mul] at h_; exact h_
        have hji8y : (wrap64 (1 * 2 ^ min a0.toNat 64)) = ji8 := (zl _).symm.trans hji8_
        have hji8x : a0 ≤ 64 → (wrap64 (1 * 2 ^ a0.toNat)) = ji8 := fun h_ => (zl _).symm.trans (hji8z h_)
        have H' := Aside0.mk H
        clear H; (try clear hcl)
        have hcl : World.cell? _ ⟨gl, 0, none⟩ = some (.slice A1 l1.length c1) := (za (zd BKl.out HB.out) 0).trans rfl
        try go_wp2
        have n0_ := Aside0.mk (qx BK211.out)
        have n1_ := Aside0.mk (qb HB.out)
        clear BK211 HB; have BK211 := n0_; have HB := n1_; clear n0_ n1_
        refine jU (n := 10) (S := fun w' => w'.cell? ⟨gl, 0, none⟩ = some (.slice A1 l1.length c1)) (ds := []) #[false, false, false, false, false, false, false, false, false, false] (by kernel_rfl) rfl rfl ((za (zd BKl.out HB.out) 0).trans rfl) (fun hHeld => ?_); refine jG zf.tab1 zf.QN (fun HT_ HW_ => ?_)
        generalize w4.drew = w9 at BK211 HB hHeld ⊢
        refine qk (i := 0) (N := some 8) (v := ?_) (a' := ?_) #[true, false, false, false, false, false, false, false, false, false] rfl rfl (qj HT_.out (by kernel_rfl)) (fun _ _ _ h => h) (Or.inl ⟨by rfl, ?_⟩) ?_ ?_
        rotate_left
        · intro w'; go_simp; with_reducible rfl
        rotate_left
        · simp only [Act.put, List.setIfInBounds_toArray, List.set_cons_zero, List.set_cons_succ, zl, zo]; rfl
        refine jR (i := 1) (N := some 9) #[true, true, false, false, false, false, false, false, false, false] rfl rfl (jO HT_.out (by kernel_rfl)) (by decide) (fun K hK => ?_)
        refine jf Try.func56 (by kernel_rfl) rfl #[.int .i64 a0] (by rfl) rfl rfl sqM ?_
        with_reducible refine (z7.calls a0 true _ A5.out).mono ?_
        rintro e w' ⟨rfl, ⟨nd, rfl⟩⟩
        refine ⟨_, rfl, ?_⟩
        refine hK.out _ _ ((za (zd BKl.out HB.out) 0).trans rfl) (fun hHeld => ?_)
        clear hK K
        refine qA (a' := ?_) ?_ ?_
        rotate_left
        · show Act.put _ (some 9) _ = _; simp only [Act.put, List.setIfInBounds_toArray, List.set_cons_zero, List.set_cons_succ, zl, zo]; rfl
        refine qk (i := 2) (N := some 10) (v := ?_) (a' := ?_) #[true, true, true, false, false, false, false, false, false, false] rfl rfl (qj HT_.out (by kernel_rfl)) (fun _ _ _ h => h) (Or.inl ⟨by rfl, ?_⟩) ?_ ?_
        rotate_left
        · intro w'; go_simp; with_reducible rfl
        rotate_left
        · simp only [Act.put, List.setIfInBounds_toArray, List.set_cons_zero, List.set_cons_succ, zl, zo]; rfl
        refine qk (i := 3) (N := some 11) (v := ?_) (a' := ?_) #[true, true, true, true, false, false, false, false, false, false] rfl rfl (qj HT_.out (by kernel_rfl)) (fun _ _ _ h => h) (Or.inl ⟨by rfl, ?_⟩) ?_ ?_
        rotate_left
        · intro w'; go_simp; with_reducible rfl
        rotate_left
        · simp only [Act.put, List.setIfInBounds_toArray, List.set_cons_zero, List.set_cons_succ, zl, zo]; rfl
        refine qX (i := 4) (N := some 12) (v := ?_) (a' := ?_) #[true, true, true, true, true, false, false, false, false, false] rfl rfl (q2 HT_.out HW_.out (by kernel_rfl)) (fun _ _ _ h => h) (Or.inl ⟨by rfl, ?_⟩) hHeld ?_ ?_
        rotate_left
        · intro w' s0
          go_simp
          with_reducible rfl
        rotate_left
        · simp only [Act.put, List.setIfInBounds_toArray, List.set_cons_zero, List.set_cons_succ, zl, zo]; rfl
        refine qk (i := 5) (N := some 13) (v := ?_) (a' := ?_) #[true, true, true, true, true, true, false, false, false, false] rfl rfl (qj HT_.out (by kernel_rfl)) (fun _ _ _ h => h) (Or.inl ⟨by rfl, ?_⟩) ?_ ?_
        rotate_left
        · intro w'; go_simp; with_reducible rfl
        rotate_left
        · simp only [Act.put, List.setIfInBounds_toArray, List.set_cons_zero, List.set_cons_succ, zl, zo]; rfl
        refine qk (i := 6) (N := some 14) (v := ?_) (a' := ?_) #[true, true, true, true, true, true, true, false, false, false] rfl rfl (qj HT_.out (by kernel_rfl)) (fun _ _ _ h => h) (Or.inl ⟨by rfl, ?_⟩) ?_ ?_
        rotate_left
        · intro w'; go_simp; with_reducible rfl
        rotate_left
        · simp only [Act.put, List.setIfInBounds_toArray, List.set_cons_zero, List.set_cons_succ, zl, zo]; rfl
        refine qk (i := 7) (N := some 15) (v := ?_) (a' := ?_) #[true, true, true, true, true, true, true, true, false, false] rfl rfl (qj HT_.out (by kernel_rfl)) (fun _ _ _ h => h) (Or.inl ⟨by rfl, ?_⟩) ?_ ?_
        rotate_left
        · intro w'; go_simp; with_reducible rfl
        rotate_left
        · simp only [Act.put, List.setIfInBounds_toArray, List.set_cons_zero, List.set_cons_succ, zl, zo]; rfl
        refine qk (i := 8) (N := some 16) (v := ?_) (a' := ?_) #[true, true, true, true, true, true, true, true, true, false] rfl rfl (qj HT_.out (by kernel_rfl)) (fun _ _ _ h => h) (Or.inl ⟨by rfl, ?_⟩) ?_ ?_
        rotate_left
        · intro w'; go_simp; with_reducible rfl
        rotate_left
        · simp only [Act.put, List.setIfInBounds_toArray, List.set_cons_zero, List.set_cons_succ, zl, zo]; rfl
        refine qk (i := 9) (N := some 17) (v := ?_) (a' := ?_) #[true, true, true, true, true, true, true, true, true, true] rfl rfl (qj HT_.out (by kernel_rfl)) (fun _ _ _ h => h) (Or.inl ⟨by rfl, ?_⟩) ?_ ?_
        rotate_left
        · intro w'; go_simp; with_reducible rfl
        rotate_left
        · simp only [Act.put, List.setIfInBounds_toArray, List.set_cons_zero, List.set_cons_succ, zl, zo]; rfl
        refine vK (vv HT_.out (by kernel_rfl)) ?_
        (try clear hcl)
        have hcl : World.cell? _ ⟨gl, 0, none⟩ = some (.slice A1 l1.length c1) := (za (zd BKl.out HB.out) 0).trans rfl
        try go_wp2
        go_meet
        case rel => exact ⟨_, (((l1.length : Int) != (ji8))), (by first | rfl | (simp; done) | (simp only [← hji8] <;> (first | rfl | simp)) | (simp [*]; done)), H', ⟨by first | omega | exact Nat.le_refl _⟩, ⟨sqK BK211.out⟩, ⟨sqB⟩⟩
      · rw [if_neg c7] at H
        exact absurd H (by simp)
    · replace c6 := Bool.eq_false_iff.mpr c6
      subst c6
      have H1 : (zf.j0 k a0 l1 true) = some (r1, r2, r3) := by rw [if_neg (show ¬ (false = true) by decide)] at H; exact H
      clear H
      have H := H1
      clear H1
      have H' := Aside0.mk H
      clear H; (try clear hcl)
      have hcl : World.cell? _ ⟨gl, 0, none⟩ = some (.slice A1 l1.length c1) := (za (zd BKl.out HB.out) 0).trans rfl
      try go_wp2
      have n0_ := Aside0.mk (qx BK211.out)
      have n1_ := Aside0.mk (qb HB.out)
      clear BK211 HB; have BK211 := n0_; have HB := n1_; clear n0_ n1_
      refine jU (n := 10) (S := fun w' => True) (ds := []) #[false, false, false, false, false, false, false, false, false, false] (by kernel_rfl) rfl rfl trivial (fun hHeld => ?_); refine jG zf.tab1 zf.QN (fun HT_ HW_ => ?_)
      generalize w4.drew = w10 at BK211 HB hHeld ⊢
      refine qk (i := 0) (N := some 8) (v := ?_) (a' := ?_) #[true, false, false, false, false, false, false, false, false, false] rfl rfl (qj HT_.out (by kernel_rfl)) (fun _ _ _ h => h) (Or.inl ⟨by rfl, ?_⟩) ?_ ?_
      rotate_left
      · intro w'; go_simp; with_reducible rfl
      rotate_left
      · simp only [Act.put, List.setIfInBounds_toArray, List.set_cons_zero, List.set_cons_succ, zl, zo]; rfl
      refine jR (i := 1) (N := some 9) #[true, true, false, false, false, false, false, false, false, false] rfl rfl (jO HT_.out (by kernel_rfl)) (by decide) (fun K hK => ?_)
      refine jf Try.func56 (by kernel_rfl) rfl #[.int .i64 a0] (by rfl) rfl rfl sqM ?_
      with_reducible refine (z7.calls a0 false _ A5.out).mono ?_
      rintro e w' ⟨rfl, ⟨nd, rfl⟩⟩
      refine ⟨_, rfl, ?_⟩
      refine hK.out _ _ trivial (fun hHeld => ?_)
      clear hK K
      refine qA (a' := ?_) ?_ ?_
      rotate_left
      · show Act.put _ (some 9) _ = _; simp only [Act.put, List.setIfInBounds_toArray, List.set_cons_zero, List.set_cons_succ, zl, zo]; rfl
      refine qk (i := 2) (N := some 10) (v := ?_) (a' := ?_) #[true, true, true, false, false, false, false, false, false, false] rfl rfl (qj HT_.out (by kernel_rfl)) (fun _ _ _ h => h) (Or.inl ⟨by rfl, ?_⟩) ?_ ?_
      rotate_left
      · intro w'; go_simp; with_reducible rfl
      rotate_left
      · simp only [Act.put, List.setIfInBounds_toArray, List.set_cons_zero, List.set_cons_succ, zl, zo]; rfl
      refine qk (i := 3) (N := some 11) (v := ?_) (a' := ?_) #[true, true, true, true, false, false, false, false, false, false] rfl rfl (qj HT_.out (by kernel_rfl)) (fun _ _ _ h => h) (Or.inl ⟨by rfl, ?_⟩) ?_ ?_
      rotate_left
      · intro w'; go_simp; with_reducible rfl
      rotate_left
      · simp only [Act.put, List.setIfInBounds_toArray, List.set_cons_zero, List.set_cons_succ, zl, zo]; rfl
      refine qk (i := 4) (N := some 12) (v := undef) (a' := ?_) #[true, true, true, true, true, false, false, false, false, false] rfl rfl (qj HT_.out (by kernel_rfl)) (fun _ _ _ h => h) (Or.inr ⟨by rfl, rfl⟩) ?_ ?_
      rotate_left
      · simp only [Act.put, List.setIfInBounds_toArray, List.set_cons_zero, List.set_cons_succ, zl, zo]; rfl
      refine qk (i := 5) (N := some 13) (v := undef) (a' := ?_) #[true, true, true, true, true, true, false, false, false, false] rfl rfl (qj HT_.out (by kernel_rfl)) (fun _ _ _ h => h) (Or.inr ⟨by rfl, rfl⟩) ?_ ?_
      rotate_left
      · simp only [Act.put, List.setIfInBounds_toArray, List.set_cons_zero, List.set_cons_succ, zl, zo]; rfl
      refine qk (i := 6) (N := some 14) (v := undef) (a' := ?_) #[true, true, true, true, true, true, true, false, false, false] rfl rfl (qj HT_.out (by kernel_rfl)) (fun _ _ _ h => h) (Or.inr ⟨by rfl, rfl⟩) ?_ ?_
      rotate_left
      · simp only [Act.put, List.setIfInBounds_toArray, List.set_cons_zero, List.set_cons_succ, zl, zo]; rfl
      refine qk (i := 7) (N := some 15) (v := undef) (a' := ?_) #[true, true, true, true, true, true, true, true, false, false] rfl rfl (qj HT_.out (by kernel_rfl)) (fun _ _ _ h => h) (Or.inr ⟨by rfl, rfl⟩) ?_ ?_
      rotate_left
      · simp only [Act.put, List.setIfInBounds_toArray, List.set_cons_zero, List.set_cons_succ, zl, zo]; rfl
      refine qk (i := 8) (N := some 16) (v := undef) (a' := ?_) #[true, true, true, true, true, true, true, true, true, false] rfl rfl (qj HT_.out (by kernel_rfl)) (fun _ _ _ h => h) (Or.inr ⟨by rfl, rfl⟩) ?_ ?_
      rotate_left
      · simp only [Act.put, List.setIfInBounds_toArray, List.set_cons_zero, List.set_cons_succ, zl, zo]; rfl
      refine qk (i := 9) (N := some 17) (v := ?_) (a' := ?_) #[true, true, true, true, true, true, true, true, true, true] rfl rfl (qj HT_.out (by kernel_rfl)) (fun _ _ _ h => h) (Or.inl ⟨by rfl, ?_⟩) ?_ ?_
      rotate_left
      · intro w'; go_simp; with_reducible rfl
      rotate_left
      · simp only [Act.put, List.setIfInBounds_toArray, List.set_cons_zero, List.set_cons_succ, zl, zo]; rfl
      refine vK (vv HT_.out (by kernel_rfl)) ?_
      (try clear hcl)
      have hcl : World.cell? _ ⟨gl, 0, none⟩ = some (.slice A1 l1.length c1) := (za (zd BKl.out HB.out) 0).trans rfl
      try go_wp2
      go_meet
      case rel => exact ⟨_, (true), (sqD), H', ⟨by first | omega | exact Nat.le_refl _⟩, ⟨sqK BK211.out⟩, ⟨sqB⟩⟩
  case rest =>
    clear HC3
    try clear c1
    try clear p2
    try clear c3
    try clear c5
    try clear c6
    try clear p6
    try clear c7
    try clear c7b0
    try clear c7b1
    obtain ⟨kq, x17_2, rfl, HA, HJ2, BK211, HB⟩ := hcut
    cases kq with
    | zero => exact absurd HA.out (by simp [zf.j0])
    | succ kj2 =>
      have H := HA.out
      clear HA
      simp only [zf.j0] at H
      by_cases c11 : x17_2 = true
      · subst c11
        have H1 : (some (0, ([] : List Int), false)) = some (r1, r2, r3) := by rw [if_pos rfl] at H; exact H
        clear H
        have H := H1
        clear H1
        simp only [Option.some.injEq, Prod.mk.injEq] at H
        obtain ⟨rfl, rfl, rfl⟩ := H
        have hcz12_0 : wc.cell? ⟨gb211, 0, none⟩ = some (.int .i64 0) := (za BK211.out 0).trans rfl
        have hcz12_1 : wc.cell? ⟨gb211, 1, none⟩ = some (.slice none 0 0) := (za BK211.out 1).trans rfl
        have hfz12_0 := zb BK211.out 0; have hfz12_1 := zb BK211.out 1; (try clear hcl)
        have hcl : World.cell? _ ⟨gl, 0, none⟩ = some (.slice A1 l1.length c1) := (za (zd BKl.out HB.out) 0).trans rfl
        go_wp2
        refine bodyPost_ret (qq rfl _ _ gb211 27 #[.int .i64 0, .slice none 0 0] (0, 0) _ rfl (by refine sqK ?_; refine zM (cs := #[.int .i64 0, .slice none 0 0]) ?_ 1 _ rfl; refine sqK ?_; refine zM (cs := #[.int .i64 0, .slice none 0 0]) ?_ 0 _ rfl; refine sqK ?_; exact BK211.out) Try.underlying27 rfl (by kernel_rfl)) rfl ?_
        exact ⟨_, sqE, Kd.qf (base := wl.heap.size) (sqN) (zt HBl.out), ze HBl.out sqB⟩
      · replace c11 := Bool.eq_false_iff.mpr c11
        subst c11
        have H1 : ((zX.f a0).bind fun t213 => (if 0 ≤ t213 then (if t213 < (l1.length : Int) then ((zv.f kj2 a0 l1 (rd l1 t213)).bind fun t215 => ((zZ.f kj2 a0 t215).bind fun t219 => (if t219 = true then ((zu.f kj2 a0 t215).bind fun t220 => ((zp.f kj2 t220 l1).bind fun t223 => (if t223 = true then (some (a0, t215, true)) else (some (0, ([] : List Int), false))))) else (some (0, ([] : List Int), false))))) else (none)) else (none))) = some (r1, r2, r3) := by rw [if_neg (show ¬ (false = true) by decide)] at H; exact H
        clear H
        have H := H1
        clear H1
        replace H := Option.bind_eq_some_iff.mp H
        obtain ⟨t213, A130, H⟩ := H
        replace H : (if 0 ≤ t213 then (if t213 < (l1.length : Int) then ((zv.f kj2 a0 l1 (rd l1 t213)).bind fun t215 => ((zZ.f kj2 a0 t215).bind fun t219 => (if t219 = true then ((zu.f kj2 a0 t215).bind fun t220 => ((zp.f kj2 t220 l1).bind fun t223 => (if t223 = true then (some (a0, t215, true)) else (some (0, ([] : List Int), false))))) else (some (0, ([] : List Int), false))))) else (none)) else (none)) = some (r1, r2, r3) := H
        have A13 := Aside0.mk A130
        clear A130
        by_cases c14 : 0 ≤ t213
        · rw [if_pos c14] at H
          have c14b0 : decide (0 ≤ t213) = true := decide_eq_true c14
          clear c14
          by_cases c15 : t213 < (l1.length : Int)
          · rw [if_pos c15] at H
            have c15b0 : decide (t213 < (l1.length : Int)) = true := decide_eq_true c15
            clear c15
            replace H := Option.bind_eq_some_iff.mp H
            obtain ⟨t215, A160, H⟩ := H
            replace H : ((zZ.f kj2 a0 t215).bind fun t219 => (if t219 = true then ((zu.f kj2 a0 t215).bind fun t220 => ((zp.f kj2 t220 l1).bind fun t223 => (if t223 = true then (some (a0, t215, true)) else (some (0, ([] : List Int), false))))) else (some (0, ([] : List Int), false)))) = some (r1, r2, r3) := H
            have A16 := Aside0.mk A160
            clear A160
            replace H := Option.bind_eq_some_iff.mp H
            obtain ⟨t219, A170, H⟩ := H
            replace H : (if t219 = true then ((zu.f kj2 a0 t215).bind fun t220 => ((zp.f kj2 t220 l1).bind fun t223 => (if t223 = true then (some (a0, t215, true)) else (some (0, ([] : List Int), false))))) else (some (0, ([] : List Int), false))) = some (r1, r2, r3) := H
            have A17 := Aside0.mk A170
            clear A170
            by_cases c18 : t219 = true
            · subst c18
              have H1 : ((zu.f kj2 a0 t215).bind fun t220 => ((zp.f kj2 t220 l1).bind fun t223 => (if t223 = true then (some (a0, t215, true)) else (some (0, ([] : List Int), false))))) = some (r1, r2, r3) := by rw [if_pos rfl] at H; exact H
              clear H
              have H := H1
              clear H1
              replace H := Option.bind_eq_some_iff.mp H
              obtain ⟨t220, A190, H⟩ := H
              replace H : ((zp.f kj2 t220 l1).bind fun t223 => (if t223 = true then (some (a0, t215, true)) else (some (0, ([] : List Int), false)))) = some (r1, r2, r3) := H
              have A19 := Aside0.mk A190
              clear A190
              replace H := Option.bind_eq_some_iff.mp H
              obtain ⟨t223, A200, H⟩ := H
              replace H : (if t223 = true then (some (a0, t215, true)) else (some (0, ([] : List Int), false))) = some (r1, r2, r3) := H
              have A20 := Aside0.mk A200
              clear A200
              by_cases c21 : t223 = true
              · subst c21
                have H1 : (some (a0, t215, true)) = some (r1, r2, r3) := by rw [if_pos rfl] at H; exact H
                clear H
                have H := H1
                clear H1
                simp only [Option.some.injEq, Prod.mk.injEq] at H
                obtain ⟨rfl, rfl, rfl⟩ := H
                (try clear hcl)
                have hcl : World.cell? _ ⟨gl, 0, none⟩ = some (.slice A1 l1.length c1) := (za (zd BKl.out HB.out) 0).trans rfl
                try go_wp2
                have n0_ := Aside0.mk (qx BK211.out)
                have n1_ := Aside0.mk (qb HB.out)
                clear BK211 HB; have BK211 := n0_; have HB := n1_; clear n0_ n1_
                have p214 : 0 ≤ (t213 : Int) := of_decide_eq_true sqA
                have q214 : t213 < (l1.length : Int) := of_decide_eq_true sqA
                obtain ⟨ad214, e214, hx214_0⟩ := Kd.zG HR1.out t213 p214 q214
                have hw214_0 := hx214_0
                cases e214
                replace hx214_0 := (HB.out.cell (World.block_lt_of_cell? wl _ hx214_0)).trans hx214_0
                replace p214 := eq_true p214
                replace q214 := eq_true q214
                refine jU (n := 7) (S := fun w' => w'.cell? (ad214.add (t213).toNat) = some (.int .i64 (rd l1 t213)) ∧ w'.cell? ⟨gl, 0, none⟩ = some (.slice (some ad214) l1.length c1)) (ds := []) #[false, false, false, false, false, false, false] (by kernel_rfl) rfl rfl ⟨(HB.out.cell (World.block_lt_of_cell? wl _ hw214_0)).trans hw214_0, (za (zd BKl.out HB.out) 0).trans rfl⟩ (fun hHeld => ?_)
                generalize wc.drew = w22 at BK211 HB hx214_0 hHeld ⊢
                refine qX (i := 0) (N := some 19) (v := ?_) (a' := ?_) #[true, false, false, false, false, false, false] rfl rfl (by kernel_rfl) (fun _ _ _ h => h) (Or.inl ⟨by rfl, ?_⟩) hHeld ?_ ?_
                rotate_left
                · rintro w' ⟨s0, s1⟩; go_simp; with_reducible rfl
                rotate_left
                · simp only [Act.put, List.setIfInBounds_toArray, List.set_cons_zero, List.set_cons_succ, zl, zo]; rfl
                refine qk (i := 1) (N := some 20) (v := ?_) (a' := ?_) #[true, true, false, false, false, false, false] rfl rfl (by kernel_rfl) (fun _ _ _ h => h) (Or.inl ⟨by rfl, ?_⟩) ?_ ?_
                rotate_left
                · intro w'; go_simp; with_reducible rfl
                rotate_left
                · simp only [Act.put, List.setIfInBounds_toArray, List.set_cons_zero, List.set_cons_succ, zl, zo]; rfl
                refine Z4 (σ := Nat) 1 #[true, true, true, true, true, true, false] (fun s_ => [(21, .int .i64 t213), (22, .pointer (some (ad214.add (t213).toNat))), (23, .int .i64 (rd l1 t213)), (6, .pointer (some ⟨s_, 0, none⟩))]) (fun s_ w' => (w'.heap[gb211]? = some (.cells #[.int .i64 0, .slice none 0 0] 27 (0, 0))) ∧ (w'.heap[s_]? = some (.cells #[.int .i64 0] 3 (0, 0))) ∧ (wl.heap.size ≤ s_) ∧ (gb211 ≠ s_) ∧ (Below wl.heap.size wl w')) ?_ ?_
                rotate_left
                · intro hCont
                  refine QX (i := 2) (j := 5) (Ni := some 21) (Nj := some 6) #[true, true, true, false, false, false, false] #[true, true, false, false, false, true, false] rfl rfl rfl rfl (by kernel_rfl) (by decide) (by decide) (fun K hK => ?_) (fun K hK => ?_)
                  · skip
                    refine jf Try.func47 (by kernel_rfl) rfl #[.int .i64 a0] (by rfl) rfl rfl sqM ?_
                    with_reducible refine (zX.calls a0 t213 _ A13.out).mono ?_
                    rintro e w' ⟨rfl, ⟨nd, rfl⟩⟩
                    refine ⟨_, rfl, ?_⟩
                    have HBd : Below wl.heap.size wl (World.drewN w22 nd) := zD HB.out nd
                    refine hK.out _ _ ⟨(HBd.cell (World.block_lt_of_cell? wl _ hw214_0)).trans hw214_0, (za (zd BKl.out HBd) 0).trans rfl⟩ (fun hHeld => ?_)
                    clear hK K
                    refine qA (a' := ?_) ?_ ?_
                    rotate_left
                    · show Act.put _ (some 21) _ = _; simp only [Act.put, List.setIfInBounds_toArray, List.set_cons_zero, List.set_cons_succ, zl, zo]; rfl
                    refine qk (i := 3) (N := some 22) (v := ?_) (a' := ?_) #[true, true, true, true, false, false, false] rfl rfl (by kernel_rfl) (fun _ _ _ h => h) (Or.inl ⟨by rfl, ?_⟩) ?_ ?_
                    rotate_left
                    · intro w'; go_simp; with_reducible rfl
                    rotate_left
                    · simp only [Act.put, List.setIfInBounds_toArray, List.set_cons_zero, List.set_cons_succ, zl, zo]; rfl
                    refine qX (i := 4) (N := some 23) (v := ?_) (a' := ?_) #[true, true, true, true, true, false, false] rfl rfl (by kernel_rfl) (fun _ _ _ h => h) (Or.inl ⟨by rfl, ?_⟩) hHeld ?_ ?_
                    rotate_left
                    · rintro w' ⟨s0, s1⟩; go_simp; with_reducible rfl
                    rotate_left
                    · simp only [Act.put, List.setIfInBounds_toArray, List.set_cons_zero, List.set_cons_succ, zl, zo]; rfl
                    refine jR (i := 5) (N := some 6) #[true, true, true, true, true, true, false] rfl rfl (by kernel_rfl) (by decide) (fun K hK => ?_)
                    refine jD ?hg (N := 6) ?hd (cs := #[.int .i64 0]) (t := 3) ?hr ?_; (case hd => rfl); (case hg => rfl); (case hr => exact sqG)
                    intro g6 hg w6 hbox hb
                    have k0 : w6.heap[gb211]? = some (.cells #[.int .i64 0, .slice none 0 0] 27 (0, 0)) := zd (w := World.drewN w22 nd) (g := gb211) (o := .cells #[.int .i64 0, .slice none 0 0] 27 (0, 0)) BK211.out hb
                    have k1 : wl.heap.size ≤ g6 := by rw [hg]; exact zt HBd
                    have k2 : gb211 ≠ g6 := by rw [hg]; exact Nat.ne_of_lt (zR (w := World.drewN w22 nd) (g := gb211) (o := .cells #[.int .i64 0, .slice none 0 0] 27 (0, 0)) BK211.out)
                    have k3 : Below wl.heap.size wl w6 := ze HBd hb
                    refine hK.out _ _ ⟨(k3.cell (World.block_lt_of_cell? wl _ hw214_0)).trans hw214_0, (za (zd BKl.out k3) 0).trans rfl⟩ (fun hHeld => ?_)
                    clear hK K
                    refine qA (a' := ?_) ?_ ?_
                    rotate_left
                    · show Act.put _ (some 6) _ = _; simp only [Act.put, List.setIfInBounds_toArray, List.set_cons_zero, List.set_cons_succ, zl, zo]; rfl
                    exact qA (by simp only [jc, Act.put, List.setIfInBounds_toArray, List.set_cons_zero, List.set_cons_succ]) (hCont g6 _ ⟨k0, hbox, k1, k2, k3⟩)
                  · skip
                    have HBd : Below wl.heap.size wl w22 := HB.out
                    refine jD ?hg (N := 6) ?hd (cs := #[.int .i64 0]) (t := 3) ?hr ?_; (case hd => rfl); (case hg => rfl); (case hr => exact sqG)
                    intro g6 hg w6 hbox hb
                    have k0 : w6.heap[gb211]? = some (.cells #[.int .i64 0, .slice none 0 0] 27 (0, 0)) := zd (w := w22) (g := gb211) (o := .cells #[.int .i64 0, .slice none 0 0] 27 (0, 0)) BK211.out hb
                    have k1 : wl.heap.size ≤ g6 := by rw [hg]; exact zt HBd
                    have k2 : gb211 ≠ g6 := by rw [hg]; exact Nat.ne_of_lt (zR (w := w22) (g := gb211) (o := .cells #[.int .i64 0, .slice none 0 0] 27 (0, 0)) BK211.out)
                    have k3 : Below wl.heap.size wl w6 := ze HBd hb
                    refine hK.out _ _ ⟨(k3.cell (World.block_lt_of_cell? wl _ hw214_0)).trans hw214_0, (za (zd BKl.out k3) 0).trans rfl⟩ (fun hHeld => ?_)
                    clear hK K
                    refine qA (a' := ?_) ?_ ?_
                    rotate_left
                    · show Act.put _ (some 6) _ = _; simp only [Act.put, List.setIfInBounds_toArray, List.set_cons_zero, List.set_cons_succ, zl, zo]; rfl
                    refine jR (i := 2) (N := some 21) #[true, true, true, false, false, true, false] rfl rfl (by kernel_rfl) (by decide) (fun K hK => ?_)
                    refine jf Try.func47 (by kernel_rfl) rfl #[.int .i64 a0] (by rfl) rfl rfl sqM ?_
                    with_reducible refine (zX.calls a0 t213 _ A13.out).mono ?_
                    rintro e w' ⟨rfl, ⟨nd, rfl⟩⟩
                    refine ⟨_, rfl, ?_⟩
                    have k4 : Below wl.heap.size wl (World.drewN w6 nd) := zD k3 nd
                    refine hK.out _ _ ⟨(k4.cell (World.block_lt_of_cell? wl _ hw214_0)).trans hw214_0, (za (zd BKl.out k4) 0).trans rfl⟩ (fun hHeld => ?_)
                    clear hK K
                    refine qA (a' := ?_) ?_ ?_
                    rotate_left
                    · show Act.put _ (some 21) _ = _; simp only [Act.put, List.setIfInBounds_toArray, List.set_cons_zero, List.set_cons_succ, zl, zo]; rfl
                    refine qk (i := 3) (N := some 22) (v := ?_) (a' := ?_) #[true, true, true, true, false, true, false] rfl rfl (by kernel_rfl) (fun _ _ _ h => h) (Or.inl ⟨by rfl, ?_⟩) ?_ ?_
                    rotate_left
                    · intro w'; go_simp; with_reducible rfl
                    rotate_left
                    · simp only [Act.put, List.setIfInBounds_toArray, List.set_cons_zero, List.set_cons_succ, zl, zo]; rfl
                    refine qX (i := 4) (N := some 23) (v := ?_) (a' := ?_) #[true, true, true, true, true, true, false] rfl rfl (by kernel_rfl) (fun _ _ _ h => h) (Or.inl ⟨by rfl, ?_⟩) hHeld ?_ ?_
                    rotate_left
                    · rintro w' ⟨s0, s1⟩; go_simp; with_reducible rfl
                    rotate_left
                    · simp only [Act.put, List.setIfInBounds_toArray, List.set_cons_zero, List.set_cons_succ, zl, zo]; rfl
                    exact qA (by simp only [jc, Act.put, List.setIfInBounds_toArray, List.set_cons_zero, List.set_cons_succ]) (hCont g6 _ ⟨k0, hbox, k1, k2, k4⟩)
                rintro g6 w40 ⟨h0_, h1_, h2_, h3_, h4_⟩
                clear BK211 HB
                have BK211 := Aside0.mk h0_
                have BK6 := Aside0.mk h1_
                have GE6 := Aside0.mk h2_
                have NB6 := Aside0.mk h3_
                have HB := Aside0.mk h4_
                clear h0_ h1_ h2_ h3_ h4_
                refine qA (a' := ?_) ?_ ?_
                rotate_left
                · simp only [jc, Act.put, List.setIfInBounds_toArray, List.set_cons_zero, List.set_cons_succ]; rfl
                refine jR (i := 6) (N := none) #[true, true, true, true, true, true, true] rfl rfl (by kernel_rfl) (by decide) (fun K hK => ?_)
                have hs41 : w40.cell? ⟨g6, 0, none⟩ = some (.int .i64 0) := (za BK6.out 0).trans rfl
                have hfs41 := zb BK6.out 0
                refine Z1 (w1 := ?_) (by rfl) rfl ?_ ?_
                rotate_left
                · go_simp
                  rfl
                have k0 : Below wl.heap.size wl (w40.setCell ⟨g6, 0, none⟩ (.int .i64 (rd l1 t213))) := qh HB.out GE6.out
                refine hK.out _ _ ⟨(k0.cell (World.block_lt_of_cell? wl _ hw214_0)).trans hw214_0, (za (zd BKl.out k0) 0).trans rfl⟩ (fun hHeld => ?_)
                clear hK K
                refine vK (by kernel_rfl) ?_
                have k1 : (w40.setCell ⟨g6, 0, none⟩ (.int .i64 (rd l1 t213))).heap[gb211]? = some (.cells #[.int .i64 0, .slice none 0 0] 27 (0, 0)) := by refine qn ?_ NB6.out _; exact BK211.out
                have k2 : (w40.setCell ⟨g6, 0, none⟩ (.int .i64 (rd l1 t213))).heap[g6]? = some (.cells #[.int .i64 (rd l1 t213)] 3 (0, 0)) := by refine zM (cs := #[.int .i64 0]) ?_ 0 _ rfl; exact BK6.out
                clear BK211 BK6 HB hs41 hfs41 NB6 GE6
                have BK211 := Aside0.mk k1
                have BK6 := Aside0.mk k2
                have HB := Aside0.mk k0
                clear k0 k1 k2 hHeld hx214_0
                generalize (w40.setCell ⟨g6, 0, none⟩ (.int .i64 (rd l1 t213))) = w41 at BK211 BK6 HB ⊢
                have hcl : World.cell? _ ⟨gl, 0, none⟩ = some (.slice (some ad214) l1.length c1) := (za (zd BKl.out HB.out) 0).trans rfl
                go_wp2_with (first
                  | ((with_reducible refine zr (N := 7) rfl ?_); (try (refine zP (by rfl) ?_; dsimp only)); refine zq ?hg (N := 7) ?hd (cs := #[.int .i64 0, .slice none 0 0]) (t := 27) ?hr ?_; (case hd => rfl); (case hg => rfl); (case hr => exact sqG); intro gb218 hg w25 hbox hb; have n0_ := Aside0.mk (Kd.zJ (sqR HO217.out) hb); have n1_ := Aside0.mk (zd (g := gb211) (o := .cells #[.int .i64 0, .slice none 0 0] 27 (0, 0)) (sqK BK211.out) hb); have n2_ := Aside0.mk (ze sqB hb); have n3_ := Aside0.mk (hbox); have n4_ := Aside0.mk ((sqS hg : wl.heap.size ≤ gb218)); have n5_ := Aside0.mk ((sqS hg : wl.heap.size ≤ gb218)); have n6_ := Aside0.mk ((by rw [hg]; exact Nat.ne_of_lt (zR (g := gb211) (o := .cells #[.int .i64 0, .slice none 0 0] 27 (0, 0)) (sqK BK211.out)) : gb211 ≠ gb218)); have n7_ := Aside0.mk ((by rw [hg]; exact Nat.ne_of_gt (zR (g := gb211) (o := .cells #[.int .i64 0, .slice none 0 0] 27 (0, 0)) (sqK BK211.out)) : gb218 ≠ gb211)); clear HO217; clear BK211; clear HB; have HO217 := n0_; have BK211 := n1_; have HB := n2_; have BK218 := n3_; have GW218 := n4_; have GE218 := n5_; have NB211_218 := n6_; have NB218_211 := n7_; clear n0_ n1_ n2_ n3_ n4_ n5_ n6_ n7_; clear hb hbox hg; have hnb26 := NB218_211.out; have hnc26 := NB211_218.out; have hcz27_0 : w25.cell? ⟨gb218, 0, none⟩ = some (.int .i64 0) := (za BK218.out 0).trans rfl; have hcz27_1 : w25.cell? ⟨gb218, 1, none⟩ = some (.slice none 0 0) := (za BK218.out 1).trans rfl; have hfz27_0 := zb BK218.out 0; have hfz27_1 := zb BK218.out 1; (try clear hcl); have hcl : World.cell? _ ⟨gl, 0, none⟩ = some (.slice (some ad214) l1.length c1) := (za (zd BKl.out HB.out) 0).trans rfl))
                refine (jN (zv.q l1 (rd l1 t213)) _ _ (enters_of Try.func58 (by kernel_rfl) rfl) kj2 a0 t215 _ (zv.pred l1 (rd l1 t213) _ c1 gl g6 _ (zd BKl.out sqB) (sqK BK6.out) (Kd.zH HR1.out sqB) HC1.out) A16.out).mono ?_
                rintro e w23 ⟨v216, rfl, ho0, hb⟩
                have n0_ := Aside0.mk (Kd.qf ho0 (zt sqB))
                have n1_ := Aside0.mk (zd (g := gb211) (o := .cells #[.int .i64 0, .slice none 0 0] 27 (0, 0)) (sqK BK211.out) hb)
                have n2_ := Aside0.mk (ze sqB hb)
                clear BK211 HB; have HO217 := n0_; have BK211 := n1_; have HB := n2_; clear n0_ n1_ n2_; (try clear hb); (try clear hb2); (try clear hk); (try clear hi); (try clear ho0)
                obtain ⟨Ao24, co24, eo24⟩ := Kd.qc HO217.out
                subst eo24
                clear BK6; (try clear hcl)
                have hcl : World.cell? _ ⟨gl, 0, none⟩ = some (.slice (some ad214) l1.length c1) := (za (zd BKl.out HB.out) 0).trans rfl
                go_wp2_with (first
                  | ((with_reducible refine zr (N := 7) rfl ?_); (try (refine zP (by rfl) ?_; dsimp only)); refine zq ?hg (N := 7) ?hd (cs := #[.int .i64 0, .slice none 0 0]) (t := 27) ?hr ?_; (case hd => rfl); (case hg => rfl); (case hr => exact sqG); intro gb218 hg w25 hbox hb; have n0_ := Aside0.mk (Kd.zJ (sqR HO217.out) hb); have n1_ := Aside0.mk (zd (g := gb211) (o := .cells #[.int .i64 0, .slice none 0 0] 27 (0, 0)) (sqK BK211.out) hb); have n2_ := Aside0.mk (ze sqB hb); have n3_ := Aside0.mk (hbox); have n4_ := Aside0.mk ((sqS hg : wl.heap.size ≤ gb218)); have n5_ := Aside0.mk ((sqS hg : wl.heap.size ≤ gb218)); have n6_ := Aside0.mk ((by rw [hg]; exact Nat.ne_of_lt (zR (g := gb211) (o := .cells #[.int .i64 0, .slice none 0 0] 27 (0, 0)) (sqK BK211.out)) : gb211 ≠ gb218)); have n7_ := Aside0.mk ((by rw [hg]; exact Nat.ne_of_gt (zR (g := gb211) (o := .cells #[.int .i64 0, .slice none 0 0] 27 (0, 0)) (sqK BK211.out)) : gb218 ≠ gb211)); clear HO217; clear BK211; clear HB; have HO217 := n0_; have BK211 := n1_; have HB := n2_; have BK218 := n3_; have GW218 := n4_; have GE218 := n5_; have NB211_218 := n6_; have NB218_211 := n7_; clear n0_ n1_ n2_ n3_ n4_ n5_ n6_ n7_; clear hb hbox hg; have hnb26 := NB218_211.out; have hnc26 := NB211_218.out; have hcz27_0 : w25.cell? ⟨gb218, 0, none⟩ = some (.int .i64 0) := (za BK218.out 0).trans rfl; have hcz27_1 : w25.cell? ⟨gb218, 1, none⟩ = some (.slice none 0 0) := (za BK218.out 1).trans rfl; have hfz27_0 := zb BK218.out 0; have hfz27_1 := zb BK218.out 1; (try clear hcl); have hcl : World.cell? _ ⟨gl, 0, none⟩ = some (.slice (some ad214) l1.length c1) := (za (zd BKl.out HB.out) 0).trans rfl))
                have n0_ : Aside0 (Kd.R (Kd.int .i64) 3 ((w25.setCell ⟨gb218, 0, none⟩ (.int .i64 a0)).setCell ⟨gb218, 1, none⟩ (.slice Ao24 t215.length co24)) wl.heap.size (fun _ => True) (.slice Ao24 t215.length co24) t215) := ⟨by refine sqR ?_; exact Kd.zN (Kd.zW (p := ⟨gb218, 1, none⟩) (Kd.zW (p := ⟨gb218, 0, none⟩) (Kd.qa HO217.out BK218.out (by decide)) (fun _ hk => hk.2) (.int .i64 a0)) (fun _ hk => hk.2) (.slice Ao24 t215.length co24)) (fun _ hk => trivial)⟩
                have n1_ : Aside0 (((w25.setCell ⟨gb218, 0, none⟩ (.int .i64 a0)).setCell ⟨gb218, 1, none⟩ (.slice Ao24 t215.length co24)).heap[gb211]? = some (.cells #[.int .i64 0, .slice none 0 0] 27 (0, 0))) := ⟨by refine sqK ?_; refine qn ?_ NB211_218.out _; refine sqK ?_; refine qn ?_ NB211_218.out _; refine sqK ?_; exact BK211.out⟩
                have n2_ : Aside0 (((w25.setCell ⟨gb218, 0, none⟩ (.int .i64 a0)).setCell ⟨gb218, 1, none⟩ (.slice Ao24 t215.length co24)).heap[gb218]? = some (.cells #[.int .i64 a0, .slice Ao24 t215.length co24] 27 (0, 0))) := ⟨by refine sqK ?_; refine zM (cs := #[.int .i64 a0, .slice none 0 0]) ?_ 1 _ rfl; refine sqK ?_; refine zM (cs := #[.int .i64 0, .slice none 0 0]) ?_ 0 _ rfl; refine sqK ?_; exact BK218.out⟩
                have n3_ : Aside0 (Below wl.heap.size wl ((w25.setCell ⟨gb218, 0, none⟩ (.int .i64 a0)).setCell ⟨gb218, 1, none⟩ (.slice Ao24 t215.length co24))) := ⟨sqB⟩
                (try clear HO217); (try clear BK211); (try clear BK218); (try clear HB)
                generalize ((w25.setCell ⟨gb218, 0, none⟩ (.int .i64 a0)).setCell ⟨gb218, 1, none⟩ (.slice Ao24 t215.length co24)) = w28 at n0_ n1_ n2_ n3_ ⊢
                have HO217 := n0_; have BK211 := n1_; have BK218 := n2_; have HB := n3_; clear n0_ n1_ n2_ n3_
                have n0_ := Aside0.mk (Kd.yO HO217.out)
                have n1_ := Aside0.mk (qx BK211.out)
                have n2_ := Aside0.mk (qx BK218.out)
                have n3_ := Aside0.mk (qb HB.out)
                clear HO217 BK211 BK218 HB; have HO217 := n0_; have BK211 := n1_; have BK218 := n2_; have HB := n3_; clear n0_ n1_ n2_ n3_
                refine jU (n := 10) (S := fun w' => w'.cell? ⟨gb218, 0, none⟩ = some (.int .i64 a0) ∧ w'.cell? ⟨gb218, 1, none⟩ = some (.slice Ao24 t215.length co24) ∧ w'.cell? ⟨gl, 0, none⟩ = some (.slice (some ad214) l1.length c1)) (ds := []) #[false, false, false, false, false, false, false, false, false, false] (by kernel_rfl) rfl rfl ⟨(za BK218.out 0).trans rfl, (za BK218.out 1).trans rfl, (za (zd BKl.out HB.out) 0).trans rfl⟩ (fun hHeld => ?_); refine jG zf.QT zf.Qb (fun HT_ HW_ => ?_)
                generalize w28.drew = w29 at HO217 BK211 BK218 HB hHeld ⊢
                refine qX (i := 0) (N := some 29) (v := ?_) (a' := ?_) #[true, false, false, false, false, false, false, false, false, false] rfl rfl (q2 HT_.out HW_.out (by kernel_rfl)) (fun _ _ _ h => h) (Or.inl ⟨by rfl, ?_⟩) hHeld ?_ ?_
                rotate_left
                · rintro w' ⟨s0, s1, s2⟩; go_simp; with_reducible rfl
                rotate_left
                · simp only [Act.put, List.setIfInBounds_toArray, List.set_cons_zero, List.set_cons_succ, zl, zo]; rfl
                refine jR (i := 1) (N := some 30) #[true, true, false, false, false, false, false, false, false, false] rfl rfl (jO HT_.out (by kernel_rfl)) (by decide) (fun K hK => ?_)
                refine jf Try.func50 (by kernel_rfl) rfl #[.agg #[.int .i64 a0, .slice Ao24 t215.length co24]] (by rfl) rfl rfl sqM ?_
                with_reducible refine (zZ.calls kj2 a0 _ _ t215 true _ ?side1 ?side2 A17.out).mono ?_
                (case side1 => exact sqC (Kd.zm HO217.out).2.2)
                (case side2 => exact (Kd.zm HO217.out).2.1)
                rintro e w30 ⟨rfl, hb⟩
                refine ⟨_, rfl, ?_⟩
                have n0_ := Aside0.mk (Kd.zJ (sqR HO217.out) hb)
                have n1_ := Aside0.mk (zd (g := gb211) (o := .cells #[.int .i64 0, .slice none 0 0] 27 (0, 0)) (sqK BK211.out) hb)
                have n2_ := Aside0.mk (zd (g := gb218) (o := .cells #[.int .i64 a0, .slice Ao24 t215.length co24] 27 (0, 0)) (sqK BK218.out) hb)
                have n3_ := Aside0.mk (ze sqB hb)
                clear HO217 BK211 BK218 HB; have HO217 := n0_; have BK211 := n1_; have BK218 := n2_; have HB := n3_; clear n0_ n1_ n2_ n3_; (try clear hb); (try clear hb2); (try clear hk); (try clear hi)
                refine hK.out _ _ ⟨(za BK218.out 0).trans rfl, (za BK218.out 1).trans rfl, (za (zd BKl.out HB.out) 0).trans rfl⟩ (fun hHeld => ?_)
                clear hK K
                refine qA (a' := ?_) ?_ ?_
                rotate_left
                · show Act.put _ (some 30) _ = _; simp only [Act.put, List.setIfInBounds_toArray, List.set_cons_zero, List.set_cons_succ, zl, zo]; rfl
                refine qk (i := 2) (N := some 31) (v := ?_) (a' := ?_) #[true, true, true, false, false, false, false, false, false, false] rfl rfl (qj HT_.out (by kernel_rfl)) (fun _ _ _ h => h) (Or.inl ⟨by rfl, ?_⟩) ?_ ?_
                rotate_left
                · intro w'; go_simp; with_reducible rfl
                rotate_left
                · simp only [Act.put, List.setIfInBounds_toArray, List.set_cons_zero, List.set_cons_succ, zl, zo]; rfl
                refine qk (i := 3) (N := some 32) (v := ?_) (a' := ?_) #[true, true, true, true, false, false, false, false, false, false] rfl rfl (qj HT_.out (by kernel_rfl)) (fun _ _ _ h => h) (Or.inl ⟨by rfl, ?_⟩) ?_ ?_
                rotate_left
                · intro w'; go_simp; with_reducible rfl
                rotate_left
                · simp only [Act.put, List.setIfInBounds_toArray, List.set_cons_zero, List.set_cons_succ, zl, zo]; rfl
                refine qX (i := 6) (N := some 35) (v := ?_) (a' := ?_) #[true, true, true, true, false, false, true, false, false, false] rfl rfl (q2 HT_.out HW_.out (by kernel_rfl)) (fun _ _ _ h => h) (Or.inl ⟨by rfl, ?_⟩) hHeld ?_ ?_
                rotate_left
                · rintro w' ⟨s0, s1, s2⟩; go_simp; with_reducible rfl
                rotate_left
                · simp only [Act.put, List.setIfInBounds_toArray, List.set_cons_zero, List.set_cons_succ, zl, zo]; rfl
                refine qX (i := 4) (N := some 33) (v := ?_) (a' := ?_) #[true, true, true, true, true, false, true, false, false, false] rfl rfl (q2 HT_.out HW_.out (by kernel_rfl)) (fun _ _ _ h => h) (Or.inl ⟨by rfl, ?_⟩) hHeld ?_ ?_
                rotate_left
                · rintro w' ⟨s0, s1, s2⟩; go_simp; with_reducible rfl
                rotate_left
                · simp only [Act.put, List.setIfInBounds_toArray, List.set_cons_zero, List.set_cons_succ, zl, zo]; rfl
                refine jR (i := 5) (N := some 34) #[true, true, true, true, true, true, true, false, false, false] rfl rfl (jO HT_.out (by kernel_rfl)) (by decide) (fun K hK => ?_)
                refine jf Try.func20 (by kernel_rfl) rfl #[.agg #[.int .i64 a0, .slice Ao24 t215.length co24]] (by rfl) rfl rfl sqM ?_
                with_reducible refine (zu.calls kj2 a0 _ _ t215 t220 _ ?side1 ?side2 A19.out).mono ?_
                (case side1 => exact sqC (Kd.zm HO217.out).2.2)
                (case side2 => exact (Kd.zm HO217.out).2.1)
                rintro e w31 ⟨v221, rfl, ho0, hb⟩
                refine ⟨_, rfl, ?_⟩
                have n0_ := Aside0.mk (Kd.qi (sqR HO217.out) (Kd.qB ho0) hb)
                have n1_ := Aside0.mk (Kd.qf (Kd.qC ho0 (Kd.ju (sqR HO217.out))) (zt sqB))
                have n2_ := Aside0.mk (zd (g := gb211) (o := .cells #[.int .i64 0, .slice none 0 0] 27 (0, 0)) (sqK BK211.out) hb)
                have n3_ := Aside0.mk (zd (g := gb218) (o := .cells #[.int .i64 a0, .slice Ao24 t215.length co24] 27 (0, 0)) (sqK BK218.out) hb)
                have n4_ := Aside0.mk (ze sqB hb)
                clear HO217 BK211 BK218 HB; have HO217 := n0_; have HO222 := n1_; have BK211 := n2_; have BK218 := n3_; have HB := n4_; clear n0_ n1_ n2_ n3_ n4_; (try clear hb); (try clear hb2); (try clear hk); (try clear hi); (try clear ho0)
                obtain ⟨Ao32, co32, eo32⟩ := Kd.qc HO222.out
                (first | subst eo32 | (injection eo32 with f1_ f2_ f3_; have f4_ := f1_.symm; have f5_ := f3_.symm; clear f1_ f2_ f3_; subst f4_; subst f5_))
                refine hK.out _ _ ⟨(za BK218.out 0).trans rfl, (za BK218.out 1).trans rfl, (za (zd BKl.out HB.out) 0).trans rfl⟩ (fun hHeld => ?_)
                clear hK K
                refine qA (a' := ?_) ?_ ?_
                rotate_left
                · show Act.put _ (some 34) _ = _; simp only [Act.put, List.setIfInBounds_toArray, List.set_cons_zero, List.set_cons_succ, zl, zo]; rfl
                refine jR (i := 7) (N := some 36) #[true, true, true, true, true, true, true, true, false, false] rfl rfl (jO HT_.out (by kernel_rfl)) (by decide) (fun K hK => ?_)
                refine jf Try.func59 (by kernel_rfl) rfl #[.slice Ao32 t220.length co32, .slice (some ad214) l1.length c1] (by rfl) rfl rfl sqM ?_
                with_reducible refine (zp.calls kj2 _ _ t220 _ _ l1 true _ ?side1 ?side2 ?side3 ?side4 A20.out).mono ?_
                (case side1 => exact sqC (Kd.zm HO222.out).2.2)
                (case side2 => exact (Kd.zm HO222.out).2.1)
                (case side3 => exact sqC (Kd.zH HR1.out HB.out))
                (case side4 => exact HC1.out)
                rintro e w' ⟨rfl, ⟨nd, rfl⟩⟩
                refine ⟨_, rfl, ?_⟩
                refine hK.out _ _ ⟨(za BK218.out 0).trans rfl, (za BK218.out 1).trans rfl, (za (zd BKl.out HB.out) 0).trans rfl⟩ (fun hHeld => ?_)
                clear hK K
                refine qA (a' := ?_) ?_ ?_
                rotate_left
                · show Act.put _ (some 36) _ = _; simp only [Act.put, List.setIfInBounds_toArray, List.set_cons_zero, List.set_cons_succ, zl, zo]; rfl
                refine qk (i := 8) (N := some 37) (v := ?_) (a' := ?_) #[true, true, true, true, true, true, true, true, true, false] rfl rfl (qj HT_.out (by kernel_rfl)) (fun _ _ _ h => h) (Or.inl ⟨by rfl, ?_⟩) ?_ ?_
                rotate_left
                · intro w'; go_simp; with_reducible rfl
                rotate_left
                · simp only [Act.put, List.setIfInBounds_toArray, List.set_cons_zero, List.set_cons_succ, zl, zo]; rfl
                refine qk (i := 9) (N := some 38) (v := ?_) (a' := ?_) #[true, true, true, true, true, true, true, true, true, true] rfl rfl (qj HT_.out (by kernel_rfl)) (fun _ _ _ h => h) (Or.inl ⟨by rfl, ?_⟩) ?_ ?_
                rotate_left
                · intro w'; go_simp; with_reducible rfl
                rotate_left
                · simp only [Act.put, List.setIfInBounds_toArray, List.set_cons_zero, List.set_cons_succ, zl, zo]; rfl
                refine vK (vv HT_.out (by kernel_rfl)) ?_
                have hcz33_0 : w31.cell? ⟨gb218, 0, none⟩ = some (.int .i64 a0) := (za BK218.out 0).trans rfl
                have hcz33_1 : w31.cell? ⟨gb218, 1, none⟩ = some (.slice Ao24 t215.length co24) := (za BK218.out 1).trans rfl
                have hfz33_0 := zb BK218.out 0; have hfz33_1 := zb BK218.out 1
                have hcz34_0 : w31.cell? ⟨gb211, 0, none⟩ = some (.int .i64 0) := (za BK211.out 0).trans rfl
                have hcz34_1 : w31.cell? ⟨gb211, 1, none⟩ = some (.slice none 0 0) := (za BK211.out 1).trans rfl
                have hfz34_0 := zb BK211.out 0; have hfz34_1 := zb BK211.out 1; (try clear hcl)
                have hcl : World.cell? _ ⟨gl, 0, none⟩ = some (.slice (some ad214) l1.length c1) := (za (zd BKl.out HB.out) 0).trans rfl
                try go_wp2
                refine bodyPost_ret (qq rfl _ _ gb211 27 #[.int .i64 a0, .slice Ao24 t215.length co24] (0, 0) _ rfl (by refine sqK ?_; refine zM (cs := #[.int .i64 a0, .slice none 0 0]) ?_ 1 _ rfl; refine sqK ?_; refine zM (cs := #[.int .i64 0, .slice none 0 0]) ?_ 0 _ rfl; refine sqK ?_; exact BK211.out) Try.underlying27 rfl (by kernel_rfl)) rfl ?_
                exact ⟨_, sqE, Kd.qf (base := wl.heap.size) (by refine sqR ?_; exact Kd.zN (Kd.zW (p := ⟨gb211, 1, none⟩) (Kd.zW (p := ⟨gb211, 0, none⟩) (Kd.qa HO217.out BK211.out (by decide)) (fun _ hk => hk.2) (.int .i64 a0)) (fun _ hk => hk.2) (.slice Ao24 t215.length co24)) (fun _ hk => trivial)) (zt HBl.out), ze HBl.out sqB⟩
              · replace c21 := Bool.eq_false_iff.mpr c21
                subst c21
                have H1 : (some (0, ([] : List Int), false)) = some (r1, r2, r3) := by rw [if_neg (show ¬ (false = true) by decide)] at H; exact H
                clear H
                have H := H1
                clear H1
                simp only [Option.some.injEq, Prod.mk.injEq] at H
                obtain ⟨rfl, rfl, rfl⟩ := H
                (try clear hcl)
                have hcl : World.cell? _ ⟨gl, 0, none⟩ = some (.slice A1 l1.length c1) := (za (zd BKl.out HB.out) 0).trans rfl
                try go_wp2
                have n0_ := Aside0.mk (qx BK211.out)
                have n1_ := Aside0.mk (qb HB.out)
                clear BK211 HB; have BK211 := n0_; have HB := n1_; clear n0_ n1_
                have p214 : 0 ≤ (t213 : Int) := of_decide_eq_true sqA
                have q214 : t213 < (l1.length : Int) := of_decide_eq_true sqA
                obtain ⟨ad214, e214, hx214_0⟩ := Kd.zG HR1.out t213 p214 q214
                have hw214_0 := hx214_0
                cases e214
                replace hx214_0 := (HB.out.cell (World.block_lt_of_cell? wl _ hx214_0)).trans hx214_0
                replace p214 := eq_true p214
                replace q214 := eq_true q214
                refine jU (n := 7) (S := fun w' => w'.cell? (ad214.add (t213).toNat) = some (.int .i64 (rd l1 t213)) ∧ w'.cell? ⟨gl, 0, none⟩ = some (.slice (some ad214) l1.length c1)) (ds := []) #[false, false, false, false, false, false, false] (by kernel_rfl) rfl rfl ⟨(HB.out.cell (World.block_lt_of_cell? wl _ hw214_0)).trans hw214_0, (za (zd BKl.out HB.out) 0).trans rfl⟩ (fun hHeld => ?_)
                generalize wc.drew = w35 at BK211 HB hx214_0 hHeld ⊢
                refine qX (i := 0) (N := some 19) (v := ?_) (a' := ?_) #[true, false, false, false, false, false, false] rfl rfl (by kernel_rfl) (fun _ _ _ h => h) (Or.inl ⟨by rfl, ?_⟩) hHeld ?_ ?_
                rotate_left
                · rintro w' ⟨s0, s1⟩; go_simp; with_reducible rfl
                rotate_left
                · simp only [Act.put, List.setIfInBounds_toArray, List.set_cons_zero, List.set_cons_succ, zl, zo]; rfl
                refine qk (i := 1) (N := some 20) (v := ?_) (a' := ?_) #[true, true, false, false, false, false, false] rfl rfl (by kernel_rfl) (fun _ _ _ h => h) (Or.inl ⟨by rfl, ?_⟩) ?_ ?_
                rotate_left
                · intro w'; go_simp; with_reducible rfl
                rotate_left
                · simp only [Act.put, List.setIfInBounds_toArray, List.set_cons_zero, List.set_cons_succ, zl, zo]; rfl
                refine Z4 (σ := Nat) 1 #[true, true, true, true, true, true, false] (fun s_ => [(21, .int .i64 t213), (22, .pointer (some (ad214.add (t213).toNat))), (23, .int .i64 (rd l1 t213)), (6, .pointer (some ⟨s_, 0, none⟩))]) (fun s_ w' => (w'.heap[gb211]? = some (.cells #[.int .i64 0, .slice none 0 0] 27 (0, 0))) ∧ (w'.heap[s_]? = some (.cells #[.int .i64 0] 3 (0, 0))) ∧ (wl.heap.size ≤ s_) ∧ (gb211 ≠ s_) ∧ (Below wl.heap.size wl w')) ?_ ?_
                rotate_left
                · intro hCont
                  refine QX (i := 2) (j := 5) (Ni := some 21) (Nj := some 6) #[true, true, true, false, false, false, false] #[true, true, false, false, false, true, false] rfl rfl rfl rfl (by kernel_rfl) (by decide) (by decide) (fun K hK => ?_) (fun K hK => ?_)
                  · skip
                    refine jf Try.func47 (by kernel_rfl) rfl #[.int .i64 a0] (by rfl) rfl rfl sqM ?_
                    with_reducible refine (zX.calls a0 t213 _ A13.out).mono ?_
                    rintro e w' ⟨rfl, ⟨nd, rfl⟩⟩
                    refine ⟨_, rfl, ?_⟩
                    have HBd : Below wl.heap.size wl (World.drewN w35 nd) := zD HB.out nd
                    refine hK.out _ _ ⟨(HBd.cell (World.block_lt_of_cell? wl _ hw214_0)).trans hw214_0, (za (zd BKl.out HBd) 0).trans rfl⟩ (fun hHeld => ?_)
                    clear hK K
                    refine qA (a' := ?_) ?_ ?_
                    rotate_left
                    · show Act.put _ (some 21) _ = _; simp only [Act.put, List.setIfInBounds_toArray, List.set_cons_zero, List.set_cons_succ, zl, zo]; rfl
                    refine qk (i := 3) (N := some 22) (v := ?_) (a' := ?_) #[true, true, true, true, false, false, false] rfl rfl (by kernel_rfl) (fun _ _ _ h => h) (Or.inl ⟨by rfl, ?_⟩) ?_ ?_
                    rotate_left
                    · intro w'; go_simp; with_reducible rfl
                    rotate_left
                    · simp only [Act.put, List.setIfInBounds_toArray, List.set_cons_zero, List.set_cons_succ, zl, zo]; rfl
                    refine qX (i := 4) (N := some 23) (v := ?_) (a' := ?_) #[true, true, true, true, true, false, false] rfl rfl (by kernel_rfl) (fun _ _ _ h => h) (Or.inl ⟨by rfl, ?_⟩) hHeld ?_ ?_
                    rotate_left
                    · rintro w' ⟨s0, s1⟩; go_simp; with_reducible rfl
                    rotate_left
                    · simp only [Act.put, List.setIfInBounds_toArray, List.set_cons_zero, List.set_cons_succ, zl, zo]; rfl
                    refine jR (i := 5) (N := some 6) #[true, true, true, true, true, true, false] rfl rfl (by kernel_rfl) (by decide) (fun K hK => ?_)
                    refine jD ?hg (N := 6) ?hd (cs := #[.int .i64 0]) (t := 3) ?hr ?_; (case hd => rfl); (case hg => rfl); (case hr => exact sqG)
                    intro g6 hg w6 hbox hb
                    have k0 : w6.heap[gb211]? = some (.cells #[.int .i64 0, .slice none 0 0] 27 (0, 0)) := zd (w := World.drewN w35 nd) (g := gb211) (o := .cells #[.int .i64 0, .slice none 0 0] 27 (0, 0)) BK211.out hb
                    have k1 : wl.heap.size ≤ g6 := by rw [hg]; exact zt HBd
                    have k2 : gb211 ≠ g6 := by rw [hg]; exact Nat.ne_of_lt (zR (w := World.drewN w35 nd) (g := gb211) (o := .cells #[.int .i64 0, .slice none 0 0] 27 (0, 0)) BK211.out)
                    have k3 : Below wl.heap.size wl w6 := ze HBd hb
                    refine hK.out _ _ ⟨(k3.cell (World.block_lt_of_cell? wl _ hw214_0)).trans hw214_0, (za (zd BKl.out k3) 0).trans rfl⟩ (fun hHeld => ?_)
                    clear hK K
                    refine qA (a' := ?_) ?_ ?_
                    rotate_left
                    · show Act.put _ (some 6) _ = _; simp only [Act.put, List.setIfInBounds_toArray, List.set_cons_zero, List.set_cons_succ, zl, zo]; rfl
                    exact qA (by simp only [jc, Act.put, List.setIfInBounds_toArray, List.set_cons_zero, List.set_cons_succ]) (hCont g6 _ ⟨k0, hbox, k1, k2, k3⟩)
                  · skip
                    have HBd : Below wl.heap.size wl w35 := HB.out
                    refine jD ?hg (N := 6) ?hd (cs := #[.int .i64 0]) (t := 3) ?hr ?_; (case hd => rfl); (case hg => rfl); (case hr => exact sqG)
                    intro g6 hg w6 hbox hb
                    have k0 : w6.heap[gb211]? = some (.cells #[.int .i64 0, .slice none 0 0] 27 (0, 0)) := zd (w := w35) (g := gb211) (o := .cells #[.int .i64 0, .slice none 0 0] 27 (0, 0)) BK211.out hb
                    have k1 : wl.heap.size ≤ g6 := by rw [hg]; exact zt HBd
                    have k2 : gb211 ≠ g6 := by rw [hg]; exact Nat.ne_of_lt (zR (w := w35) (g := gb211) (o := .cells #[.int .i64 0, .slice none 0 0] 27 (0, 0)) BK211.out)
                    have k3 : Below wl.heap.size wl w6 := ze HBd hb
                    refine hK.out _ _ ⟨(k3.cell (World.block_lt_of_cell? wl _ hw214_0)).trans hw214_0, (za (zd BKl.out k3) 0).trans rfl⟩ (fun hHeld => ?_)
                    clear hK K
                    refine qA (a' := ?_) ?_ ?_
                    rotate_left
                    · show Act.put _ (some 6) _ = _; simp only [Act.put, List.setIfInBounds_toArray, List.set_cons_zero, List.set_cons_succ, zl, zo]; rfl
                    refine jR (i := 2) (N := some 21) #[true, true, true, false, false, true, false] rfl rfl (by kernel_rfl) (by decide) (fun K hK => ?_)
                    refine jf Try.func47 (by kernel_rfl) rfl #[.int .i64 a0] (by rfl) rfl rfl sqM ?_
                    with_reducible refine (zX.calls a0 t213 _ A13.out).mono ?_
                    rintro e w' ⟨rfl, ⟨nd, rfl⟩⟩
                    refine ⟨_, rfl, ?_⟩
                    have k4 : Below wl.heap.size wl (World.drewN w6 nd) := zD k3 nd
                    refine hK.out _ _ ⟨(k4.cell (World.block_lt_of_cell? wl _ hw214_0)).trans hw214_0, (za (zd BKl.out k4) 0).trans rfl⟩ (fun hHeld => ?_)
                    clear hK K
                    refine qA (a' := ?_) ?_ ?_
                    rotate_left
                    · show Act.put _ (some 21) _ = _; simp only [Act.put, List.setIfInBounds_toArray, List.set_cons_zero, List.set_cons_succ, zl, zo]; rfl
                    refine qk (i := 3) (N := some 22) (v := ?_) (a' := ?_) #[true, true, true, true, false, true, false] rfl rfl (by kernel_rfl) (fun _ _ _ h => h) (Or.inl ⟨by rfl, ?_⟩) ?_ ?_
                    rotate_left
                    · intro w'; go_simp; with_reducible rfl
                    rotate_left
                    · simp only [Act.put, List.setIfInBounds_toArray, List.set_cons_zero, List.set_cons_succ, zl, zo]; rfl
                    refine qX (i := 4) (N := some 23) (v := ?_) (a' := ?_) #[true, true, true, true, true, true, false] rfl rfl (by kernel_rfl) (fun _ _ _ h => h) (Or.inl ⟨by rfl, ?_⟩) hHeld ?_ ?_
                    rotate_left
                    · rintro w' ⟨s0, s1⟩; go_simp; with_reducible rfl
                    rotate_left
                    · simp only [Act.put, List.setIfInBounds_toArray, List.set_cons_zero, List.set_cons_succ, zl, zo]; rfl
                    exact qA (by simp only [jc, Act.put, List.setIfInBounds_toArray, List.set_cons_zero, List.set_cons_succ]) (hCont g6 _ ⟨k0, hbox, k1, k2, k4⟩)
                rintro g6 w40 ⟨h0_, h1_, h2_, h3_, h4_⟩
                clear BK211 HB
                have BK211 := Aside0.mk h0_
                have BK6 := Aside0.mk h1_
                have GE6 := Aside0.mk h2_
                have NB6 := Aside0.mk h3_
                have HB := Aside0.mk h4_
                clear h0_ h1_ h2_ h3_ h4_
                refine qA (a' := ?_) ?_ ?_
                rotate_left
                · simp only [jc, Act.put, List.setIfInBounds_toArray, List.set_cons_zero, List.set_cons_succ]; rfl
                refine jR (i := 6) (N := none) #[true, true, true, true, true, true, true] rfl rfl (by kernel_rfl) (by decide) (fun K hK => ?_)
                have hs41 : w40.cell? ⟨g6, 0, none⟩ = some (.int .i64 0) := (za BK6.out 0).trans rfl
                have hfs41 := zb BK6.out 0
                refine Z1 (w1 := ?_) (by rfl) rfl ?_ ?_
                rotate_left
                · go_simp
                  rfl
                have k0 : Below wl.heap.size wl (w40.setCell ⟨g6, 0, none⟩ (.int .i64 (rd l1 t213))) := qh HB.out GE6.out
                refine hK.out _ _ ⟨(k0.cell (World.block_lt_of_cell? wl _ hw214_0)).trans hw214_0, (za (zd BKl.out k0) 0).trans rfl⟩ (fun hHeld => ?_)
                clear hK K
                refine vK (by kernel_rfl) ?_
                have k1 : (w40.setCell ⟨g6, 0, none⟩ (.int .i64 (rd l1 t213))).heap[gb211]? = some (.cells #[.int .i64 0, .slice none 0 0] 27 (0, 0)) := by refine qn ?_ NB6.out _; exact BK211.out
                have k2 : (w40.setCell ⟨g6, 0, none⟩ (.int .i64 (rd l1 t213))).heap[g6]? = some (.cells #[.int .i64 (rd l1 t213)] 3 (0, 0)) := by refine zM (cs := #[.int .i64 0]) ?_ 0 _ rfl; exact BK6.out
                clear BK211 BK6 HB hs41 hfs41 NB6 GE6
                have BK211 := Aside0.mk k1
                have BK6 := Aside0.mk k2
                have HB := Aside0.mk k0
                clear k0 k1 k2 hHeld hx214_0
                generalize (w40.setCell ⟨g6, 0, none⟩ (.int .i64 (rd l1 t213))) = w41 at BK211 BK6 HB ⊢
                have hcl : World.cell? _ ⟨gl, 0, none⟩ = some (.slice (some ad214) l1.length c1) := (za (zd BKl.out HB.out) 0).trans rfl
                go_wp2_with (first
                  | ((with_reducible refine zr (N := 7) rfl ?_); (try (refine zP (by rfl) ?_; dsimp only)); refine zq ?hg (N := 7) ?hd (cs := #[.int .i64 0, .slice none 0 0]) (t := 27) ?hr ?_; (case hd => rfl); (case hg => rfl); (case hr => exact sqG); intro gb218 hg w38 hbox hb; have n0_ := Aside0.mk (Kd.zJ (sqR HO217.out) hb); have n1_ := Aside0.mk (zd (g := gb211) (o := .cells #[.int .i64 0, .slice none 0 0] 27 (0, 0)) (sqK BK211.out) hb); have n2_ := Aside0.mk (ze sqB hb); have n3_ := Aside0.mk (hbox); have n4_ := Aside0.mk ((sqS hg : wl.heap.size ≤ gb218)); have n5_ := Aside0.mk ((sqS hg : wl.heap.size ≤ gb218)); have n6_ := Aside0.mk ((by rw [hg]; exact Nat.ne_of_lt (zR (g := gb211) (o := .cells #[.int .i64 0, .slice none 0 0] 27 (0, 0)) (sqK BK211.out)) : gb211 ≠ gb218)); have n7_ := Aside0.mk ((by rw [hg]; exact Nat.ne_of_gt (zR (g := gb211) (o := .cells #[.int .i64 0, .slice none 0 0] 27 (0, 0)) (sqK BK211.out)) : gb218 ≠ gb211)); clear HO217; clear BK211; clear HB; have HO217 := n0_; have BK211 := n1_; have HB := n2_; have BK218 := n3_; have GW218 := n4_; have GE218 := n5_; have NB211_218 := n6_; have NB218_211 := n7_; clear n0_ n1_ n2_ n3_ n4_ n5_ n6_ n7_; clear hb hbox hg; have hnb39 := NB218_211.out; have hnc39 := NB211_218.out; have hcz40_0 : w38.cell? ⟨gb218, 0, none⟩ = some (.int .i64 0) := (za BK218.out 0).trans rfl; have hcz40_1 : w38.cell? ⟨gb218, 1, none⟩ = some (.slice none 0 0) := (za BK218.out 1).trans rfl; have hfz40_0 := zb BK218.out 0; have hfz40_1 := zb BK218.out 1; (try clear hcl); have hcl : World.cell? _ ⟨gl, 0, none⟩ = some (.slice (some ad214) l1.length c1) := (za (zd BKl.out HB.out) 0).trans rfl))
                refine (jN (zv.q l1 (rd l1 t213)) _ _ (enters_of Try.func58 (by kernel_rfl) rfl) kj2 a0 t215 _ (zv.pred l1 (rd l1 t213) _ c1 gl g6 _ (zd BKl.out sqB) (sqK BK6.out) (Kd.zH HR1.out sqB) HC1.out) A16.out).mono ?_
                rintro e w36 ⟨v216, rfl, ho0, hb⟩
                have n0_ := Aside0.mk (Kd.qf ho0 (zt sqB))
                have n1_ := Aside0.mk (zd (g := gb211) (o := .cells #[.int .i64 0, .slice none 0 0] 27 (0, 0)) (sqK BK211.out) hb)
                have n2_ := Aside0.mk (ze sqB hb)
                clear BK211 HB; have HO217 := n0_; have BK211 := n1_; have HB := n2_; clear n0_ n1_ n2_; (try clear hb); (try clear hb2); (try clear hk); (try clear hi); (try clear ho0)
                obtain ⟨Ao37, co37, eo37⟩ := Kd.qc HO217.out
                subst eo37
                clear BK6; (try clear hcl)
                have hcl : World.cell? _ ⟨gl, 0, none⟩ = some (.slice (some ad214) l1.length c1) := (za (zd BKl.out HB.out) 0).trans rfl
                go_wp2_with (first
                  | ((with_reducible refine zr (N := 7) rfl ?_); (try (refine zP (by rfl) ?_; dsimp only)); refine zq ?hg (N := 7) ?hd (cs := #[.int .i64 0, .slice none 0 0]) (t := 27) ?hr ?_; (case hd => rfl); (case hg => rfl); (case hr => exact sqG); intro gb218 hg w38 hbox hb; have n0_ := Aside0.mk (Kd.zJ (sqR HO217.out) hb); have n1_ := Aside0.mk (zd (g := gb211) (o := .cells #[.int .i64 0, .slice none 0 0] 27 (0, 0)) (sqK BK211.out) hb); have n2_ := Aside0.mk (ze sqB hb); have n3_ := Aside0.mk (hbox); have n4_ := Aside0.mk ((sqS hg : wl.heap.size ≤ gb218)); have n5_ := Aside0.mk ((sqS hg : wl.heap.size ≤ gb218)); have n6_ := Aside0.mk ((by rw [hg]; exact Nat.ne_of_lt (zR (g := gb211) (o := .cells #[.int .i64 0, .slice none 0 0] 27 (0, 0)) (sqK BK211.out)) : gb211 ≠ gb218)); have n7_ := Aside0.mk ((by rw [hg]; exact Nat.ne_of_gt (zR (g := gb211) (o := .cells #[.int .i64 0, .slice none 0 0] 27 (0, 0)) (sqK BK211.out)) : gb218 ≠ gb211)); clear HO217; clear BK211; clear HB; have HO217 := n0_; have BK211 := n1_; have HB := n2_; have BK218 := n3_; have GW218 := n4_; have GE218 := n5_; have NB211_218 := n6_; have NB218_211 := n7_; clear n0_ n1_ n2_ n3_ n4_ n5_ n6_ n7_; clear hb hbox hg; have hnb39 := NB218_211.out; have hnc39 := NB211_218.out; have hcz40_0 : w38.cell? ⟨gb218, 0, none⟩ = some (.int .i64 0) := (za BK218.out 0).trans rfl; have hcz40_1 : w38.cell? ⟨gb218, 1, none⟩ = some (.slice none 0 0) := (za BK218.out 1).trans rfl; have hfz40_0 := zb BK218.out 0; have hfz40_1 := zb BK218.out 1; (try clear hcl); have hcl : World.cell? _ ⟨gl, 0, none⟩ = some (.slice (some ad214) l1.length c1) := (za (zd BKl.out HB.out) 0).trans rfl))
                have n0_ : Aside0 (Kd.R (Kd.int .i64) 3 ((w38.setCell ⟨gb218, 0, none⟩ (.int .i64 a0)).setCell ⟨gb218, 1, none⟩ (.slice Ao37 t215.length co37)) wl.heap.size (fun _ => True) (.slice Ao37 t215.length co37) t215) := ⟨by refine sqR ?_; exact Kd.zN (Kd.zW (p := ⟨gb218, 1, none⟩) (Kd.zW (p := ⟨gb218, 0, none⟩) (Kd.qa HO217.out BK218.out (by decide)) (fun _ hk => hk.2) (.int .i64 a0)) (fun _ hk => hk.2) (.slice Ao37 t215.length co37)) (fun _ hk => trivial)⟩
                have n1_ : Aside0 (((w38.setCell ⟨gb218, 0, none⟩ (.int .i64 a0)).setCell ⟨gb218, 1, none⟩ (.slice Ao37 t215.length co37)).heap[gb211]? = some (.cells #[.int .i64 0, .slice none 0 0] 27 (0, 0))) := ⟨by refine sqK ?_; refine qn ?_ NB211_218.out _; refine sqK ?_; refine qn ?_ NB211_218.out _; refine sqK ?_; exact BK211.out⟩
                have n2_ : Aside0 (((w38.setCell ⟨gb218, 0, none⟩ (.int .i64 a0)).setCell ⟨gb218, 1, none⟩ (.slice Ao37 t215.length co37)).heap[gb218]? = some (.cells #[.int .i64 a0, .slice Ao37 t215.length co37] 27 (0, 0))) := ⟨by refine sqK ?_; refine zM (cs := #[.int .i64 a0, .slice none 0 0]) ?_ 1 _ rfl; refine sqK ?_; refine zM (cs := #[.int .i64 0, .slice none 0 0]) ?_ 0 _ rfl; refine sqK ?_; exact BK218.out⟩
                have n3_ : Aside0 (Below wl.heap.size wl ((w38.setCell ⟨gb218, 0, none⟩ (.int .i64 a0)).setCell ⟨gb218, 1, none⟩ (.slice Ao37 t215.length co37))) := ⟨sqB⟩
                (try clear HO217); (try clear BK211); (try clear BK218); (try clear HB)
                generalize ((w38.setCell ⟨gb218, 0, none⟩ (.int .i64 a0)).setCell ⟨gb218, 1, none⟩ (.slice Ao37 t215.length co37)) = w41 at n0_ n1_ n2_ n3_ ⊢
                have HO217 := n0_; have BK211 := n1_; have BK218 := n2_; have HB := n3_; clear n0_ n1_ n2_ n3_
                have n0_ := Aside0.mk (Kd.yO HO217.out)
                have n1_ := Aside0.mk (qx BK211.out)
                have n2_ := Aside0.mk (qx BK218.out)
                have n3_ := Aside0.mk (qb HB.out)
                clear HO217 BK211 BK218 HB; have HO217 := n0_; have BK211 := n1_; have BK218 := n2_; have HB := n3_; clear n0_ n1_ n2_ n3_
                refine jU (n := 10) (S := fun w' => w'.cell? ⟨gb218, 0, none⟩ = some (.int .i64 a0) ∧ w'.cell? ⟨gb218, 1, none⟩ = some (.slice Ao37 t215.length co37) ∧ w'.cell? ⟨gl, 0, none⟩ = some (.slice (some ad214) l1.length c1)) (ds := []) #[false, false, false, false, false, false, false, false, false, false] (by kernel_rfl) rfl rfl ⟨(za BK218.out 0).trans rfl, (za BK218.out 1).trans rfl, (za (zd BKl.out HB.out) 0).trans rfl⟩ (fun hHeld => ?_); refine jG zf.QT zf.Qb (fun HT_ HW_ => ?_)
                generalize w41.drew = w42 at HO217 BK211 BK218 HB hHeld ⊢
                refine qX (i := 0) (N := some 29) (v := ?_) (a' := ?_) #[true, false, false, false, false, false, false, false, false, false] rfl rfl (q2 HT_.out HW_.out (by kernel_rfl)) (fun _ _ _ h => h) (Or.inl ⟨by rfl, ?_⟩) hHeld ?_ ?_
                rotate_left
                · rintro w' ⟨s0, s1, s2⟩; go_simp; with_reducible rfl
                rotate_left
                · simp only [Act.put, List.setIfInBounds_toArray, List.set_cons_zero, List.set_cons_succ, zl, zo]; rfl
                refine jR (i := 1) (N := some 30) #[true, true, false, false, false, false, false, false, false, false] rfl rfl (jO HT_.out (by kernel_rfl)) (by decide) (fun K hK => ?_)
                refine jf Try.func50 (by kernel_rfl) rfl #[.agg #[.int .i64 a0, .slice Ao37 t215.length co37]] (by rfl) rfl rfl sqM ?_
                with_reducible refine (zZ.calls kj2 a0 _ _ t215 true _ ?side1 ?side2 A17.out).mono ?_
                (case side1 => exact sqC (Kd.zm HO217.out).2.2)
                (case side2 => exact (Kd.zm HO217.out).2.1)
                rintro e w43 ⟨rfl, hb⟩
                refine ⟨_, rfl, ?_⟩
                have n0_ := Aside0.mk (Kd.zJ (sqR HO217.out) hb)
                have n1_ := Aside0.mk (zd (g := gb211) (o := .cells #[.int .i64 0, .slice none 0 0] 27 (0, 0)) (sqK BK211.out) hb)
                have n2_ := Aside0.mk (zd (g := gb218) (o := .cells #[.int .i64 a0, .slice Ao37 t215.length co37] 27 (0, 0)) (sqK BK218.out) hb)
                have n3_ := Aside0.mk (ze sqB hb)
                clear HO217 BK211 BK218 HB; have HO217 := n0_; have BK211 := n1_; have BK218 := n2_; have HB := n3_; clear n0_ n1_ n2_ n3_; (try clear hb); (try clear hb2); (try clear hk); (try clear hi)
                refine hK.out _ _ ⟨(za BK218.out 0).trans rfl, (za BK218.out 1).trans rfl, (za (zd BKl.out HB.out) 0).trans rfl⟩ (fun hHeld => ?_)
                clear hK K
                refine qA (a' := ?_) ?_ ?_
                rotate_left
                · show Act.put _ (some 30) _ = _; simp only [Act.put, List.setIfInBounds_toArray, List.set_cons_zero, List.set_cons_succ, zl, zo]; rfl
                refine qk (i := 2) (N := some 31) (v := ?_) (a' := ?_) #[true, true, true, false, false, false, false, false, false, false] rfl rfl (qj HT_.out (by kernel_rfl)) (fun _ _ _ h => h) (Or.inl ⟨by rfl, ?_⟩) ?_ ?_
                rotate_left
                · intro w'; go_simp; with_reducible rfl
                rotate_left
                · simp only [Act.put, List.setIfInBounds_toArray, List.set_cons_zero, List.set_cons_succ, zl, zo]; rfl
                refine qk (i := 3) (N := some 32) (v := ?_) (a' := ?_) #[true, true, true, true, false, false, false, false, false, false] rfl rfl (qj HT_.out (by kernel_rfl)) (fun _ _ _ h => h) (Or.inl ⟨by rfl, ?_⟩) ?_ ?_
                rotate_left
                · intro w'; go_simp; with_reducible rfl
                rotate_left
                · simp only [Act.put, List.setIfInBounds_toArray, List.set_cons_zero, List.set_cons_succ, zl, zo]; rfl
                refine qX (i := 6) (N := some 35) (v := ?_) (a' := ?_) #[true, true, true, true, false, false, true, false, false, false] rfl rfl (q2 HT_.out HW_.out (by kernel_rfl)) (fun _ _ _ h => h) (Or.inl ⟨by rfl, ?_⟩) hHeld ?_ ?_
                rotate_left
                · rintro w' ⟨s0, s1, s2⟩; go_simp; with_reducible rfl
                rotate_left
                · simp only [Act.put, List.setIfInBounds_toArray, List.set_cons_zero, List.set_cons_succ, zl, zo]; rfl
                refine qX (i := 4) (N := some 33) (v := ?_) (a' := ?_) #[true, true, true, true, true, false, true, false, false, false] rfl rfl (q2 HT_.out HW_.out (by kernel_rfl)) (fun _ _ _ h => h) (Or.inl ⟨by rfl, ?_⟩) hHeld ?_ ?_
                rotate_left
                · rintro w' ⟨s0, s1, s2⟩; go_simp; with_reducible rfl
                rotate_left
                · simp only [Act.put, List.setIfInBounds_toArray, List.set_cons_zero, List.set_cons_succ, zl, zo]; rfl
                refine jR (i := 5) (N := some 34) #[true, true, true, true, true, true, true, false, false, false] rfl rfl (jO HT_.out (by kernel_rfl)) (by decide) (fun K hK => ?_)
                refine jf Try.func20 (by kernel_rfl) rfl #[.agg #[.int .i64 a0, .slice Ao37 t215.length co37]] (by rfl) rfl rfl sqM ?_
                with_reducible refine (zu.calls kj2 a0 _ _ t215 t220 _ ?side1 ?side2 A19.out).mono ?_
                (case side1 => exact sqC (Kd.zm HO217.out).2.2)
                (case side2 => exact (Kd.zm HO217.out).2.1)
                rintro e w44 ⟨v221, rfl, ho0, hb⟩
                refine ⟨_, rfl, ?_⟩
                have n0_ := Aside0.mk (Kd.qi (sqR HO217.out) (Kd.qB ho0) hb)
                have n1_ := Aside0.mk (Kd.qf (Kd.qC ho0 (Kd.ju (sqR HO217.out))) (zt sqB))
                have n2_ := Aside0.mk (zd (g := gb211) (o := .cells #[.int .i64 0, .slice none 0 0] 27 (0, 0)) (sqK BK211.out) hb)
                have n3_ := Aside0.mk (zd (g := gb218) (o := .cells #[.int .i64 a0, .slice Ao37 t215.length co37] 27 (0, 0)) (sqK BK218.out) hb)
                have n4_ := Aside0.mk (ze sqB hb)
                clear HO217 BK211 BK218 HB; have HO217 := n0_; have HO222 := n1_; have BK211 := n2_; have BK218 := n3_; have HB := n4_; clear n0_ n1_ n2_ n3_ n4_; (try clear hb); (try clear hb2); (try clear hk); (try clear hi); (try clear ho0)
                obtain ⟨Ao45, co45, eo45⟩ := Kd.qc HO222.out
                (first | subst eo45 | (injection eo45 with f1_ f2_ f3_; have f4_ := f1_.symm; have f5_ := f3_.symm; clear f1_ f2_ f3_; subst f4_; subst f5_))
                refine hK.out _ _ ⟨(za BK218.out 0).trans rfl, (za BK218.out 1).trans rfl, (za (zd BKl.out HB.out) 0).trans rfl⟩ (fun hHeld => ?_)
                clear hK K
                refine qA (a' := ?_) ?_ ?_
                rotate_left
                · show Act.put _ (some 34) _ = _; simp only [Act.put, List.setIfInBounds_toArray, List.set_cons_zero, List.set_cons_succ, zl, zo]; rfl
                refine jR (i := 7) (N := some 36) #[true, true, true, true, true, true, true, true, false, false] rfl rfl (jO HT_.out (by kernel_rfl)) (by decide) (fun K hK => ?_)
                refine jf Try.func59 (by kernel_rfl) rfl #[.slice Ao45 t220.length co45, .slice (some ad214) l1.length c1] (by rfl) rfl rfl sqM ?_
                with_reducible refine (zp.calls kj2 _ _ t220 _ _ l1 false _ ?side1 ?side2 ?side3 ?side4 A20.out).mono ?_
                (case side1 => exact sqC (Kd.zm HO222.out).2.2)
                (case side2 => exact (Kd.zm HO222.out).2.1)
                (case side3 => exact sqC (Kd.zH HR1.out HB.out))
                (case side4 => exact HC1.out)
                rintro e w' ⟨rfl, ⟨nd, rfl⟩⟩
                refine ⟨_, rfl, ?_⟩
                refine hK.out _ _ ⟨(za BK218.out 0).trans rfl, (za BK218.out 1).trans rfl, (za (zd BKl.out HB.out) 0).trans rfl⟩ (fun hHeld => ?_)
                clear hK K
                refine qA (a' := ?_) ?_ ?_
                rotate_left
                · show Act.put _ (some 36) _ = _; simp only [Act.put, List.setIfInBounds_toArray, List.set_cons_zero, List.set_cons_succ, zl, zo]; rfl
                refine qk (i := 8) (N := some 37) (v := ?_) (a' := ?_) #[true, true, true, true, true, true, true, true, true, false] rfl rfl (qj HT_.out (by kernel_rfl)) (fun _ _ _ h => h) (Or.inl ⟨by rfl, ?_⟩) ?_ ?_
                rotate_left
                · intro w'; go_simp; with_reducible rfl
                rotate_left
                · simp only [Act.put, List.setIfInBounds_toArray, List.set_cons_zero, List.set_cons_succ, zl, zo]; rfl
                refine qk (i := 9) (N := some 38) (v := ?_) (a' := ?_) #[true, true, true, true, true, true, true, true, true, true] rfl rfl (qj HT_.out (by kernel_rfl)) (fun _ _ _ h => h) (Or.inl ⟨by rfl, ?_⟩) ?_ ?_
                rotate_left
                · intro w'; go_simp; with_reducible rfl
                rotate_left
                · simp only [Act.put, List.setIfInBounds_toArray, List.set_cons_zero, List.set_cons_succ, zl, zo]; rfl
                refine vK (vv HT_.out (by kernel_rfl)) ?_
                have hcz46_0 : w44.cell? ⟨gb211, 0, none⟩ = some (.int .i64 0) := (za BK211.out 0).trans rfl
                have hcz46_1 : w44.cell? ⟨gb211, 1, none⟩ = some (.slice none 0 0) := (za BK211.out 1).trans rfl
                have hfz46_0 := zb BK211.out 0; have hfz46_1 := zb BK211.out 1; (try clear hcl)
                have hcl : World.cell? _ ⟨gl, 0, none⟩ = some (.slice (some ad214) l1.length c1) := (za (zd BKl.out HB.out) 0).trans rfl
                try go_wp2
                refine bodyPost_ret (qq rfl _ _ gb211 27 #[.int .i64 0, .slice none 0 0] (0, 0) _ rfl (by refine sqK ?_; refine zM (cs := #[.int .i64 0, .slice none 0 0]) ?_ 1 _ rfl; refine sqK ?_; refine zM (cs := #[.int .i64 0, .slice none 0 0]) ?_ 0 _ rfl; refine sqK ?_; exact BK211.out) Try.underlying27 rfl (by kernel_rfl)) rfl ?_
                exact ⟨_, sqE, Kd.qf (base := wl.heap.size) (sqN) (zt HBl.out), ze HBl.out sqB⟩
            · replace c18 := Bool.eq_false_iff.mpr c18
              subst c18
              have H1 : (some (0, ([] : List Int), false)) = some (r1, r2, r3) := by rw [if_neg (show ¬ (false = true) by decide)] at H; exact H
              clear H
              have H := H1
              clear H1
              simp only [Option.some.injEq, Prod.mk.injEq] at H
              obtain ⟨rfl, rfl, rfl⟩ := H
              (try clear hcl)
              have hcl : World.cell? _ ⟨gl, 0, none⟩ = some (.slice A1 l1.length c1) := (za (zd BKl.out HB.out) 0).trans rfl
              try go_wp2
              have n0_ := Aside0.mk (qx BK211.out)
              have n1_ := Aside0.mk (qb HB.out)
              clear BK211 HB; have BK211 := n0_; have HB := n1_; clear n0_ n1_
              have p214 : 0 ≤ (t213 : Int) := of_decide_eq_true sqA
              have q214 : t213 < (l1.length : Int) := of_decide_eq_true sqA
              obtain ⟨ad214, e214, hx214_0⟩ := Kd.zG HR1.out t213 p214 q214
              have hw214_0 := hx214_0
              cases e214
              replace hx214_0 := (HB.out.cell (World.block_lt_of_cell? wl _ hx214_0)).trans hx214_0
              replace p214 := eq_true p214
              replace q214 := eq_true q214
              refine jU (n := 7) (S := fun w' => w'.cell? (ad214.add (t213).toNat) = some (.int .i64 (rd l1 t213)) ∧ w'.cell? ⟨gl, 0, none⟩ = some (.slice (some ad214) l1.length c1)) (ds := []) #[false, false, false, false, false, false, false] (by kernel_rfl) rfl rfl ⟨(HB.out.cell (World.block_lt_of_cell? wl _ hw214_0)).trans hw214_0, (za (zd BKl.out HB.out) 0).trans rfl⟩ (fun hHeld => ?_)
              generalize wc.drew = w47 at BK211 HB hx214_0 hHeld ⊢
              refine qX (i := 0) (N := some 19) (v := ?_) (a' := ?_) #[true, false, false, false, false, false, false] rfl rfl (by kernel_rfl) (fun _ _ _ h => h) (Or.inl ⟨by rfl, ?_⟩) hHeld ?_ ?_
              rotate_left
              · rintro w' ⟨s0, s1⟩; go_simp; with_reducible rfl
              rotate_left
              · simp only [Act.put, List.setIfInBounds_toArray, List.set_cons_zero, List.set_cons_succ, zl, zo]; rfl
              refine qk (i := 1) (N := some 20) (v := ?_) (a' := ?_) #[true, true, false, false, false, false, false] rfl rfl (by kernel_rfl) (fun _ _ _ h => h) (Or.inl ⟨by rfl, ?_⟩) ?_ ?_
              rotate_left
              · intro w'; go_simp; with_reducible rfl
              rotate_left
              · simp only [Act.put, List.setIfInBounds_toArray, List.set_cons_zero, List.set_cons_succ, zl, zo]; rfl
              refine Z4 (σ := Nat) 1 #[true, true, true, true, true, true, false] (fun s_ => [(21, .int .i64 t213), (22, .pointer (some (ad214.add (t213).toNat))), (23, .int .i64 (rd l1 t213)), (6, .pointer (some ⟨s_, 0, none⟩))]) (fun s_ w' => (w'.heap[gb211]? = some (.cells #[.int .i64 0, .slice none 0 0] 27 (0, 0))) ∧ (w'.heap[s_]? = some (.cells #[.int .i64 0] 3 (0, 0))) ∧ (wl.heap.size ≤ s_) ∧ (gb211 ≠ s_) ∧ (Below wl.heap.size wl w')) ?_ ?_
              rotate_left
              · intro hCont
                refine QX (i := 2) (j := 5) (Ni := some 21) (Nj := some 6) #[true, true, true, false, false, false, false] #[true, true, false, false, false, true, false] rfl rfl rfl rfl (by kernel_rfl) (by decide) (by decide) (fun K hK => ?_) (fun K hK => ?_)
                · skip
                  refine jf Try.func47 (by kernel_rfl) rfl #[.int .i64 a0] (by rfl) rfl rfl sqM ?_
                  with_reducible refine (zX.calls a0 t213 _ A13.out).mono ?_
                  rintro e w' ⟨rfl, ⟨nd, rfl⟩⟩
                  refine ⟨_, rfl, ?_⟩
                  have HBd : Below wl.heap.size wl (World.drewN w47 nd) := zD HB.out nd
                  refine hK.out _ _ ⟨(HBd.cell (World.block_lt_of_cell? wl _ hw214_0)).trans hw214_0, (za (zd BKl.out HBd) 0).trans rfl⟩ (fun hHeld => ?_)
                  clear hK K
                  refine qA (a' := ?_) ?_ ?_
                  rotate_left
                  · show Act.put _ (some 21) _ = _; simp only [Act.put, List.setIfInBounds_toArray, List.set_cons_zero, List.set_cons_succ, zl, zo]; rfl
                  refine qk (i := 3) (N := some 22) (v := ?_) (a' := ?_) #[true, true, true, true, false, false, false] rfl rfl (by kernel_rfl) (fun _ _ _ h => h) (Or.inl ⟨by rfl, ?_⟩) ?_ ?_
                  rotate_left
                  · intro w'; go_simp; with_reducible rfl
                  rotate_left
                  · simp only [Act.put, List.setIfInBounds_toArray, List.set_cons_zero, List.set_cons_succ, zl, zo]; rfl
                  refine qX (i := 4) (N := some 23) (v := ?_) (a' := ?_) #[true, true, true, true, true, false, false] rfl rfl (by kernel_rfl) (fun _ _ _ h => h) (Or.inl ⟨by rfl, ?_⟩) hHeld ?_ ?_
                  rotate_left
                  · rintro w' ⟨s0, s1⟩; go_simp; with_reducible rfl
                  rotate_left
                  · simp only [Act.put, List.setIfInBounds_toArray, List.set_cons_zero, List.set_cons_succ, zl, zo]; rfl
                  refine jR (i := 5) (N := some 6) #[true, true, true, true, true, true, false] rfl rfl (by kernel_rfl) (by decide) (fun K hK => ?_)
                  refine jD ?hg (N := 6) ?hd (cs := #[.int .i64 0]) (t := 3) ?hr ?_; (case hd => rfl); (case hg => rfl); (case hr => exact sqG)
                  intro g6 hg w6 hbox hb
                  have k0 : w6.heap[gb211]? = some (.cells #[.int .i64 0, .slice none 0 0] 27 (0, 0)) := zd (w := World.drewN w47 nd) (g := gb211) (o := .cells #[.int .i64 0, .slice none 0 0] 27 (0, 0)) BK211.out hb
                  have k1 : wl.heap.size ≤ g6 := by rw [hg]; exact zt HBd
                  have k2 : gb211 ≠ g6 := by rw [hg]; exact Nat.ne_of_lt (zR (w := World.drewN w47 nd) (g := gb211) (o := .cells #[.int .i64 0, .slice none 0 0] 27 (0, 0)) BK211.out)
                  have k3 : Below wl.heap.size wl w6 := ze HBd hb
                  refine hK.out _ _ ⟨(k3.cell (World.block_lt_of_cell? wl _ hw214_0)).trans hw214_0, (za (zd BKl.out k3) 0).trans rfl⟩ (fun hHeld => ?_)
                  clear hK K
                  refine qA (a' := ?_) ?_ ?_
                  rotate_left
                  · show Act.put _ (some 6) _ = _; simp only [Act.put, List.setIfInBounds_toArray, List.set_cons_zero, List.set_cons_succ, zl, zo]; rfl
                  exact qA (by simp only [jc, Act.put, List.setIfInBounds_toArray, List.set_cons_zero, List.set_cons_succ]) (hCont g6 _ ⟨k0, hbox, k1, k2, k3⟩)
                · skip
                  have HBd : Below wl.heap.size wl w47 := HB.out
                  refine jD ?hg (N := 6) ?hd (cs := #[.int .i64 0]) (t := 3) ?hr ?_; (case hd => rfl); (case hg => rfl); (case hr => exact sqG)
                  intro g6 hg w6 hbox hb
                  have k0 : w6.heap[gb211]? = some (.cells #[.int .i64 0, .slice none 0 0] 27 (0, 0)) := zd (w := w47) (g := gb211) (o := .cells #[.int .i64 0, .slice none 0 0] 27 (0, 0)) BK211.out hb
                  have k1 : wl.heap.size ≤ g6 := by rw [hg]; exact zt HBd
                  have k2 : gb211 ≠ g6 := by rw [hg]; exact Nat.ne_of_lt (zR (w := w47) (g := gb211) (o := .cells #[.int .i64 0, .slice none 0 0] 27 (0, 0)) BK211.out)
                  have k3 : Below wl.heap.size wl w6 := ze HBd hb
                  refine hK.out _ _ ⟨(k3.cell (World.block_lt_of_cell? wl _ hw214_0)).trans hw214_0, (za (zd BKl.out k3) 0).trans rfl⟩ (fun hHeld => ?_)
                  clear hK K
                  refine qA (a' := ?_) ?_ ?_
                  rotate_left
                  · show Act.put _ (some 6) _ = _; simp only [Act.put, List.setIfInBounds_toArray, List.set_cons_zero, List.set_cons_succ, zl, zo]; rfl
                  refine jR (i := 2) (N := some 21) #[true, true, true, false, false, true, false] rfl rfl (by kernel_rfl) (by decide) (fun K hK => ?_)
                  refine jf Try.func47 (by kernel_rfl) rfl #[.int .i64 a0] (by rfl) rfl rfl sqM ?_
                  with_reducible refine (zX.calls a0 t213 _ A13.out).mono ?_
                  rintro e w' ⟨rfl, ⟨nd, rfl⟩⟩
                  refine ⟨_, rfl, ?_⟩
                  have k4 : Below wl.heap.size wl (World.drewN w6 nd) := zD k3 nd
                  refine hK.out _ _ ⟨(k4.cell (World.block_lt_of_cell? wl _ hw214_0)).trans hw214_0, (za (zd BKl.out k4) 0).trans rfl⟩ (fun hHeld => ?_)
                  clear hK K
                  refine qA (a' := ?_) ?_ ?_
                  rotate_left
                  · show Act.put _ (some 21) _ = _; simp only [Act.put, List.setIfInBounds_toArray, List.set_cons_zero, List.set_cons_succ, zl, zo]; rfl
                  refine qk (i := 3) (N := some 22) (v := ?_) (a' := ?_) #[true, true, true, true, false, true, false] rfl rfl (by kernel_rfl) (fun _ _ _ h => h) (Or.inl ⟨by rfl, ?_⟩) ?_ ?_
                  rotate_left
                  · intro w'; go_simp; with_reducible rfl
                  rotate_left
                  · simp only [Act.put, List.setIfInBounds_toArray, List.set_cons_zero, List.set_cons_succ, zl, zo]; rfl
                  refine qX (i := 4) (N := some 23) (v := ?_) (a' := ?_) #[true, true, true, true, true, true, false] rfl rfl (by kernel_rfl) (fun _ _ _ h => h) (Or.inl ⟨by rfl, ?_⟩) hHeld ?_ ?_
                  rotate_left
                  · rintro w' ⟨s0, s1⟩; go_simp; with_reducible rfl
                  rotate_left
                  · simp only [Act.put, List.setIfInBounds_toArray, List.set_cons_zero, List.set_cons_succ, zl, zo]; rfl
                  exact qA (by simp only [jc, Act.put, List.setIfInBounds_toArray, List.set_cons_zero, List.set_cons_succ]) (hCont g6 _ ⟨k0, hbox, k1, k2, k4⟩)
              rintro g6 w40 ⟨h0_, h1_, h2_, h3_, h4_⟩
              clear BK211 HB
              have BK211 := Aside0.mk h0_
              have BK6 := Aside0.mk h1_
              have GE6 := Aside0.mk h2_
              have NB6 := Aside0.mk h3_
              have HB := Aside0.mk h4_
              clear h0_ h1_ h2_ h3_ h4_
              refine qA (a' := ?_) ?_ ?_
              rotate_left
              · simp only [jc, Act.put, List.setIfInBounds_toArray, List.set_cons_zero, List.set_cons_succ]; rfl
              refine jR (i := 6) (N := none) #[true, true, true, true, true, true, true] rfl rfl (by kernel_rfl) (by decide) (fun K hK => ?_)
              have hs41 : w40.cell? ⟨g6, 0, none⟩ = some (.int .i64 0) := (za BK6.out 0).trans rfl
              have hfs41 := zb BK6.out 0
              refine Z1 (w1 := ?_) (by rfl) rfl ?_ ?_
              rotate_left
              · go_simp
                rfl
              have k0 : Below wl.heap.size wl (w40.setCell ⟨g6, 0, none⟩ (.int .i64 (rd l1 t213))) := qh HB.out GE6.out
              refine hK.out _ _ ⟨(k0.cell (World.block_lt_of_cell? wl _ hw214_0)).trans hw214_0, (za (zd BKl.out k0) 0).trans rfl⟩ (fun hHeld => ?_)
              clear hK K
              refine vK (by kernel_rfl) ?_
              have k1 : (w40.setCell ⟨g6, 0, none⟩ (.int .i64 (rd l1 t213))).heap[gb211]? = some (.cells #[.int .i64 0, .slice none 0 0] 27 (0, 0)) := by refine qn ?_ NB6.out _; exact BK211.out
              have k2 : (w40.setCell ⟨g6, 0, none⟩ (.int .i64 (rd l1 t213))).heap[g6]? = some (.cells #[.int .i64 (rd l1 t213)] 3 (0, 0)) := by refine zM (cs := #[.int .i64 0]) ?_ 0 _ rfl; exact BK6.out
              clear BK211 BK6 HB hs41 hfs41 NB6 GE6
              have BK211 := Aside0.mk k1
              have BK6 := Aside0.mk k2
              have HB := Aside0.mk k0
              clear k0 k1 k2 hHeld hx214_0
              generalize (w40.setCell ⟨g6, 0, none⟩ (.int .i64 (rd l1 t213))) = w41 at BK211 BK6 HB ⊢
              have hcl : World.cell? _ ⟨gl, 0, none⟩ = some (.slice (some ad214) l1.length c1) := (za (zd BKl.out HB.out) 0).trans rfl
              go_wp2_with (first
                | ((with_reducible refine zr (N := 7) rfl ?_); (try (refine zP (by rfl) ?_; dsimp only)); refine zq ?hg (N := 7) ?hd (cs := #[.int .i64 0, .slice none 0 0]) (t := 27) ?hr ?_; (case hd => rfl); (case hg => rfl); (case hr => exact sqG); intro gb218 hg w50 hbox hb; have n0_ := Aside0.mk (Kd.zJ (sqR HO217.out) hb); have n1_ := Aside0.mk (zd (g := gb211) (o := .cells #[.int .i64 0, .slice none 0 0] 27 (0, 0)) (sqK BK211.out) hb); have n2_ := Aside0.mk (ze sqB hb); have n3_ := Aside0.mk (hbox); have n4_ := Aside0.mk ((sqS hg : wl.heap.size ≤ gb218)); have n5_ := Aside0.mk ((sqS hg : wl.heap.size ≤ gb218)); have n6_ := Aside0.mk ((by rw [hg]; exact Nat.ne_of_lt (zR (g := gb211) (o := .cells #[.int .i64 0, .slice none 0 0] 27 (0, 0)) (sqK BK211.out)) : gb211 ≠ gb218)); have n7_ := Aside0.mk ((by rw [hg]; exact Nat.ne_of_gt (zR (g := gb211) (o := .cells #[.int .i64 0, .slice none 0 0] 27 (0, 0)) (sqK BK211.out)) : gb218 ≠ gb211)); clear HO217; clear BK211; clear HB; have HO217 := n0_; have BK211 := n1_; have HB := n2_; have BK218 := n3_; have GW218 := n4_; have GE218 := n5_; have NB211_218 := n6_; have NB218_211 := n7_; clear n0_ n1_ n2_ n3_ n4_ n5_ n6_ n7_; clear hb hbox hg; have hnb51 := NB218_211.out; have hnc51 := NB211_218.out; have hcz52_0 : w50.cell? ⟨gb218, 0, none⟩ = some (.int .i64 0) := (za BK218.out 0).trans rfl; have hcz52_1 : w50.cell? ⟨gb218, 1, none⟩ = some (.slice none 0 0) := (za BK218.out 1).trans rfl; have hfz52_0 := zb BK218.out 0; have hfz52_1 := zb BK218.out 1; (try clear hcl); have hcl : World.cell? _ ⟨gl, 0, none⟩ = some (.slice (some ad214) l1.length c1) := (za (zd BKl.out HB.out) 0).trans rfl))
              refine (jN (zv.q l1 (rd l1 t213)) _ _ (enters_of Try.func58 (by kernel_rfl) rfl) kj2 a0 t215 _ (zv.pred l1 (rd l1 t213) _ c1 gl g6 _ (zd BKl.out sqB) (sqK BK6.out) (Kd.zH HR1.out sqB) HC1.out) A16.out).mono ?_
              rintro e w48 ⟨v216, rfl, ho0, hb⟩
              have n0_ := Aside0.mk (Kd.qf ho0 (zt sqB))
              have n1_ := Aside0.mk (zd (g := gb211) (o := .cells #[.int .i64 0, .slice none 0 0] 27 (0, 0)) (sqK BK211.out) hb)
              have n2_ := Aside0.mk (ze sqB hb)
              clear BK211 HB; have HO217 := n0_; have BK211 := n1_; have HB := n2_; clear n0_ n1_ n2_; (try clear hb); (try clear hb2); (try clear hk); (try clear hi); (try clear ho0)
              obtain ⟨Ao49, co49, eo49⟩ := Kd.qc HO217.out
              subst eo49
              clear BK6; (try clear hcl)
              have hcl : World.cell? _ ⟨gl, 0, none⟩ = some (.slice (some ad214) l1.length c1) := (za (zd BKl.out HB.out) 0).trans rfl
              go_wp2_with (first
                | ((with_reducible refine zr (N := 7) rfl ?_); (try (refine zP (by rfl) ?_; dsimp only)); refine zq ?hg (N := 7) ?hd (cs := #[.int .i64 0, .slice none 0 0]) (t := 27) ?hr ?_; (case hd => rfl); (case hg => rfl); (case hr => exact sqG); intro gb218 hg w50 hbox hb; have n0_ := Aside0.mk (Kd.zJ (sqR HO217.out) hb); have n1_ := Aside0.mk (zd (g := gb211) (o := .cells #[.int .i64 0, .slice none 0 0] 27 (0, 0)) (sqK BK211.out) hb); have n2_ := Aside0.mk (ze sqB hb); have n3_ := Aside0.mk (hbox); have n4_ := Aside0.mk ((sqS hg : wl.heap.size ≤ gb218)); have n5_ := Aside0.mk ((sqS hg : wl.heap.size ≤ gb218)); have n6_ := Aside0.mk ((by rw [hg]; exact Nat.ne_of_lt (zR (g := gb211) (o := .cells #[.int .i64 0, .slice none 0 0] 27 (0, 0)) (sqK BK211.out)) : gb211 ≠ gb218)); have n7_ := Aside0.mk ((by rw [hg]; exact Nat.ne_of_gt (zR (g := gb211) (o := .cells #[.int .i64 0, .slice none 0 0] 27 (0, 0)) (sqK BK211.out)) : gb218 ≠ gb211)); clear HO217; clear BK211; clear HB; have HO217 := n0_; have BK211 := n1_; have HB := n2_; have BK218 := n3_; have GW218 := n4_; have GE218 := n5_; have NB211_218 := n6_; have NB218_211 := n7_; clear n0_ n1_ n2_ n3_ n4_ n5_ n6_ n7_; clear hb hbox hg; have hnb51 := NB218_211.out; have hnc51 := NB211_218.out; have hcz52_0 : w50.cell? ⟨gb218, 0, none⟩ = some (.int .i64 0) := (za BK218.out 0).trans rfl; have hcz52_1 : w50.cell? ⟨gb218, 1, none⟩ = some (.slice none 0 0) := (za BK218.out 1).trans rfl; have hfz52_0 := zb BK218.out 0; have hfz52_1 := zb BK218.out 1; (try clear hcl); have hcl : World.cell? _ ⟨gl, 0, none⟩ = some (.slice (some ad214) l1.length c1) := (za (zd BKl.out HB.out) 0).trans rfl))
              have n0_ : Aside0 (Kd.R (Kd.int .i64) 3 ((w50.setCell ⟨gb218, 0, none⟩ (.int .i64 a0)).setCell ⟨gb218, 1, none⟩ (.slice Ao49 t215.length co49)) wl.heap.size (fun _ => True) (.slice Ao49 t215.length co49) t215) := ⟨by refine sqR ?_; exact Kd.zN (Kd.zW (p := ⟨gb218, 1, none⟩) (Kd.zW (p := ⟨gb218, 0, none⟩) (Kd.qa HO217.out BK218.out (by decide)) (fun _ hk => hk.2) (.int .i64 a0)) (fun _ hk => hk.2) (.slice Ao49 t215.length co49)) (fun _ hk => trivial)⟩
              have n1_ : Aside0 (((w50.setCell ⟨gb218, 0, none⟩ (.int .i64 a0)).setCell ⟨gb218, 1, none⟩ (.slice Ao49 t215.length co49)).heap[gb211]? = some (.cells #[.int .i64 0, .slice none 0 0] 27 (0, 0))) := ⟨by refine sqK ?_; refine qn ?_ NB211_218.out _; refine sqK ?_; refine qn ?_ NB211_218.out _; refine sqK ?_; exact BK211.out⟩
              have n2_ : Aside0 (((w50.setCell ⟨gb218, 0, none⟩ (.int .i64 a0)).setCell ⟨gb218, 1, none⟩ (.slice Ao49 t215.length co49)).heap[gb218]? = some (.cells #[.int .i64 a0, .slice Ao49 t215.length co49] 27 (0, 0))) := ⟨by refine sqK ?_; refine zM (cs := #[.int .i64 a0, .slice none 0 0]) ?_ 1 _ rfl; refine sqK ?_; refine zM (cs := #[.int .i64 0, .slice none 0 0]) ?_ 0 _ rfl; refine sqK ?_; exact BK218.out⟩
              have n3_ : Aside0 (Below wl.heap.size wl ((w50.setCell ⟨gb218, 0, none⟩ (.int .i64 a0)).setCell ⟨gb218, 1, none⟩ (.slice Ao49 t215.length co49))) := ⟨sqB⟩
              (try clear HO217); (try clear BK211); (try clear BK218); (try clear HB)
              generalize ((w50.setCell ⟨gb218, 0, none⟩ (.int .i64 a0)).setCell ⟨gb218, 1, none⟩ (.slice Ao49 t215.length co49)) = w53 at n0_ n1_ n2_ n3_ ⊢
              have HO217 := n0_; have BK211 := n1_; have BK218 := n2_; have HB := n3_; clear n0_ n1_ n2_ n3_
              have n0_ := Aside0.mk (Kd.yO HO217.out)
              have n1_ := Aside0.mk (qx BK211.out)
              have n2_ := Aside0.mk (qx BK218.out)
              have n3_ := Aside0.mk (qb HB.out)
              clear HO217 BK211 BK218 HB; have HO217 := n0_; have BK211 := n1_; have BK218 := n2_; have HB := n3_; clear n0_ n1_ n2_ n3_
              refine jU (n := 10) (S := fun w' => w'.cell? ⟨gb218, 0, none⟩ = some (.int .i64 a0) ∧ w'.cell? ⟨gb218, 1, none⟩ = some (.slice Ao49 t215.length co49)) (ds := []) #[false, false, false, false, false, false, false, false, false, false] (by kernel_rfl) rfl rfl ⟨(za BK218.out 0).trans rfl, (za BK218.out 1).trans rfl⟩ (fun hHeld => ?_); refine jG zf.QT zf.Qb (fun HT_ HW_ => ?_)
              generalize w53.drew = w54 at HO217 BK211 BK218 HB hHeld ⊢
              refine qX (i := 0) (N := some 29) (v := ?_) (a' := ?_) #[true, false, false, false, false, false, false, false, false, false] rfl rfl (q2 HT_.out HW_.out (by kernel_rfl)) (fun _ _ _ h => h) (Or.inl ⟨by rfl, ?_⟩) hHeld ?_ ?_
              rotate_left
              · rintro w' ⟨s0, s1⟩; go_simp; with_reducible rfl
              rotate_left
              · simp only [Act.put, List.setIfInBounds_toArray, List.set_cons_zero, List.set_cons_succ, zl, zo]; rfl
              refine jR (i := 1) (N := some 30) #[true, true, false, false, false, false, false, false, false, false] rfl rfl (jO HT_.out (by kernel_rfl)) (by decide) (fun K hK => ?_)
              refine jf Try.func50 (by kernel_rfl) rfl #[.agg #[.int .i64 a0, .slice Ao49 t215.length co49]] (by rfl) rfl rfl sqM ?_
              with_reducible refine (zZ.calls kj2 a0 _ _ t215 false _ ?side1 ?side2 A17.out).mono ?_
              (case side1 => exact sqC (Kd.zm HO217.out).2.2)
              (case side2 => exact (Kd.zm HO217.out).2.1)
              rintro e w55 ⟨rfl, hb⟩
              refine ⟨_, rfl, ?_⟩
              have n0_ := Aside0.mk (Kd.zJ (sqR HO217.out) hb)
              have n1_ := Aside0.mk (zd (g := gb211) (o := .cells #[.int .i64 0, .slice none 0 0] 27 (0, 0)) (sqK BK211.out) hb)
              have n2_ := Aside0.mk (zd (g := gb218) (o := .cells #[.int .i64 a0, .slice Ao49 t215.length co49] 27 (0, 0)) (sqK BK218.out) hb)
              have n3_ := Aside0.mk (ze sqB hb)
              clear HO217 BK211 BK218 HB; have HO217 := n0_; have BK211 := n1_; have BK218 := n2_; have HB := n3_; clear n0_ n1_ n2_ n3_; (try clear hb); (try clear hb2); (try clear hk); (try clear hi)
              refine hK.out _ _ ⟨(za BK218.out 0).trans rfl, (za BK218.out 1).trans rfl⟩ (fun hHeld => ?_)
              clear hK K
              refine qA (a' := ?_) ?_ ?_
              rotate_left
              · show Act.put _ (some 30) _ = _; simp only [Act.put, List.setIfInBounds_toArray, List.set_cons_zero, List.set_cons_succ, zl, zo]; rfl
              refine qk (i := 2) (N := some 31) (v := ?_) (a' := ?_) #[true, true, true, false, false, false, false, false, false, false] rfl rfl (qj HT_.out (by kernel_rfl)) (fun _ _ _ h => h) (Or.inl ⟨by rfl, ?_⟩) ?_ ?_
              rotate_left
              · intro w'; go_simp; with_reducible rfl
              rotate_left
              · simp only [Act.put, List.setIfInBounds_toArray, List.set_cons_zero, List.set_cons_succ, zl, zo]; rfl
              refine qk (i := 3) (N := some 32) (v := ?_) (a' := ?_) #[true, true, true, true, false, false, false, false, false, false] rfl rfl (qj HT_.out (by kernel_rfl)) (fun _ _ _ h => h) (Or.inl ⟨by rfl, ?_⟩) ?_ ?_
              rotate_left
              · intro w'; go_simp; with_reducible rfl
              rotate_left
              · simp only [Act.put, List.setIfInBounds_toArray, List.set_cons_zero, List.set_cons_succ, zl, zo]; rfl
              refine qk (i := 4) (N := some 33) (v := undef) (a' := ?_) #[true, true, true, true, true, false, false, false, false, false] rfl rfl (qj HT_.out (by kernel_rfl)) (fun _ _ _ h => h) (Or.inr ⟨by rfl, rfl⟩) ?_ ?_
              rotate_left
              · simp only [Act.put, List.setIfInBounds_toArray, List.set_cons_zero, List.set_cons_succ, zl, zo]; rfl
              refine qk (i := 5) (N := some 34) (v := undef) (a' := ?_) #[true, true, true, true, true, true, false, false, false, false] rfl rfl (qj HT_.out (by kernel_rfl)) (fun _ _ _ h => h) (Or.inr ⟨by rfl, rfl⟩) ?_ ?_
              rotate_left
              · simp only [Act.put, List.setIfInBounds_toArray, List.set_cons_zero, List.set_cons_succ, zl, zo]; rfl
              refine qk (i := 6) (N := some 35) (v := undef) (a' := ?_) #[true, true, true, true, true, true, true, false, false, false] rfl rfl (qj HT_.out (by kernel_rfl)) (fun _ _ _ h => h) (Or.inr ⟨by rfl, rfl⟩) ?_ ?_
              rotate_left
              · simp only [Act.put, List.setIfInBounds_toArray, List.set_cons_zero, List.set_cons_succ, zl, zo]; rfl
              refine qk (i := 7) (N := some 36) (v := undef) (a' := ?_) #[true, true, true, true, true, true, true, true, false, false] rfl rfl (qj HT_.out (by kernel_rfl)) (fun _ _ _ h => h) (Or.inr ⟨by rfl, rfl⟩) ?_ ?_
              rotate_left
              · simp only [Act.put, List.setIfInBounds_toArray, List.set_cons_zero, List.set_cons_succ, zl, zo]; rfl
              refine qk (i := 8) (N := some 37) (v := undef) (a' := ?_) #[true, true, true, true, true, true, true, true, true, false] rfl rfl (qj HT_.out (by kernel_rfl)) (fun _ _ _ h => h) (Or.inr ⟨by rfl, rfl⟩) ?_ ?_
              rotate_left
              · simp only [Act.put, List.setIfInBounds_toArray, List.set_cons_zero, List.set_cons_succ, zl, zo]; rfl
              refine qk (i := 9) (N := some 38) (v := ?_) (a' := ?_) #[true, true, true, true, true, true, true, true, true, true] rfl rfl (qj HT_.out (by kernel_rfl)) (fun _ _ _ h => h) (Or.inl ⟨by rfl, ?_⟩) ?_ ?_
              rotate_left
              · intro w'; go_simp; with_reducible rfl
              rotate_left
              · simp only [Act.put, List.setIfInBounds_toArray, List.set_cons_zero, List.set_cons_succ, zl, zo]; rfl
              refine vK (vv HT_.out (by kernel_rfl)) ?_
              have hcz56_0 : w55.cell? ⟨gb211, 0, none⟩ = some (.int .i64 0) := (za BK211.out 0).trans rfl
              have hcz56_1 : w55.cell? ⟨gb211, 1, none⟩ = some (.slice none 0 0) := (za BK211.out 1).trans rfl
              have hfz56_0 := zb BK211.out 0; have hfz56_1 := zb BK211.out 1; (try clear hcl)
              have hcl : World.cell? _ ⟨gl, 0, none⟩ = some (.slice (some ad214) l1.length c1) := (za (zd BKl.out HB.out) 0).trans rfl
              try go_wp2
              refine bodyPost_ret (qq rfl _ _ gb211 27 #[.int .i64 0, .slice none 0 0] (0, 0) _ rfl (by refine sqK ?_; refine zM (cs := #[.int .i64 0, .slice none 0 0]) ?_ 1 _ rfl; refine sqK ?_; refine zM (cs := #[.int .i64 0, .slice none 0 0]) ?_ 0 _ rfl; refine sqK ?_; exact BK211.out) Try.underlying27 rfl (by kernel_rfl)) rfl ?_
              exact ⟨_, sqE, Kd.qf (base := wl.heap.size) (sqN) (zt HBl.out), ze HBl.out sqB⟩
          · rw [if_neg c15] at H
            exact absurd H (by simp)
        · rw [if_neg c14] at H
          exact absurd H (by simp)
end Go.Proofs.Ytmeopnlkddflaaa.F
end
section
namespace Go.Proofs.Ytmeopnlkddflaaa.F
open Go.RowKit Go.Proofs.YtmeopnlkddflaaaW.PrintWords Go.Proofs.YtmeopnlkddflaaaW.PrintLast Go.Proofs.YtmeopnlkddflaaaW.PrintMore
attribute [local go_sem] q4 q6 jz jx qW qT qZ q3   -- for this text's walks alone
set_option linter.unusedVariables false
set_option linter.unusedSimpArgs false

mutual
def zc.j0 : Nat → Int → List Int → Bool → List Int → Bool → Bool → Int → List Int → Int → List Int → Option (Bool)
 | 0, _, _, _, _, _, _, _, _, _, _ => none
 | k + 1, x0, x1, x6, x7, x9, x41, x223000, x223001, x232000, x232001 => if x41 = true then (none) else ((zI.f k x1).bind fun t233 => ((zY.f k x7 t233).bind fun t236 => (if t236 = true then ((zL.f k x7 1).bind fun bt237 => (if bt237.1 < 0 then (zc.j1 k x0 x1 x6 true x223000 x223001 x232000 x232001) else ((zy.f k x232000 x232001 x223000 x223001).bind fun t239 => (if t239 = true then (zc.j1 k x0 x1 x6 (x9 != x6) x223000 x223001 x232000 x232001) else (zc.j1 k x0 x1 x6 true x223000 x223001 x232000 x232001))))) else (none))))
def zc.j1 : Nat → Int → List Int → Bool → Bool → Int → List Int → Int → List Int → Option (Bool)
 | 0, _, _, _, _, _, _, _, _ => none
 | k + 1, x0, x1, x6, x62, x223000, x223001, x232000, x232001 => if x62 = true then (none) else ((qs.f k x232000 x232001 1).bind fun bt240 => ((qd.f k x232000 bt240.2 1).bind fun t242 => (if t242 < 0 then (none) else (if t242 = bt240.1 then ((zI.f k x1).bind fun t243 => ((zf.f k x0 t243).bind fun bt246 => ((zy.f k bt246.1 bt246.2.1 x223000 x223001).bind fun t252 => (if t252 = true then (zc.j2 k bt240.1 (bt246.2.2 != x6) x232000 bt240.2) else (zc.j2 k bt240.1 true x232000 bt240.2))))) else (none)))))
def zc.j2 : Nat → Int → Bool → Int → List Int → Option (Bool)
 | 0, _, _, _, _ => none
 | k + 1, x11, x89, x232000, x232001 => if x89 = true then (none) else ((qd.f k x232000 x232001 1).bind fun t253 => (if t253 < 0 then (none) else (if t253 = x11 then (some true) else (none))))
end
def zc.f (k : Nat) (a0 : Int) (l1 : List Int) : Option (Bool) := if (l1.length : Int) > 1048576 then (some true) else ((zI.f k l1).bind fun t214 => ((zj.f k a0 t214).bind fun bt217 => ((zI.f k l1).bind fun t223 => ((zf.f k a0 t223).bind fun bt226 => ((zy.f k bt226.1 bt226.2.1 bt217.1 bt217.2.1).bind fun t232 => (if t232 = true then (zc.j0 k a0 l1 bt217.2.2 t223 bt226.2.2 (bt226.2.2 != bt217.2.2) bt217.1 bt217.2.1 bt226.1 bt226.2.1) else (zc.j0 k a0 l1 bt217.2.2 t223 bt226.2.2 true bt217.1 bt217.2.1 bt226.1 bt226.2.1)))))))
theorem zc.calls (k : Nat) (a0 : Int) (A1 : Option Addr) (c1 : Nat) (l1 : List Int) (r : Bool) (w : World) (hr1 : Kd.C (Kd.int .i64) w A1 l1.length l1) (hc1 : l1.length ≤ c1) (h : zc.f k a0 l1 = some r) :
  Calls Try.prog 8 #[.int .i64 a0, .slice A1 l1.length c1] w fun e w' => e = .returned (.bool r) ∧ Below w.heap.size w w' := by
 have hu27 := Try.underlying27
 have HR1 := Aside0.mk hr1
 have HC1 := Aside0.mk hc1
 clear hr1 hc1
 have HB := Aside0.mk (Below.refl w.heap.size w)
 have H : (if (l1.length : Int) > 1048576 then (some true) else ((zI.f k l1).bind fun t214 => ((zj.f k a0 t214).bind fun bt217 => ((zI.f k l1).bind fun t223 => ((zf.f k a0 t223).bind fun bt226 => ((zy.f k bt226.1 bt226.2.1 bt217.1 bt217.2.1).bind fun t232 => (if t232 = true then (zc.j0 k a0 l1 bt217.2.2 t223 bt226.2.2 (bt226.2.2 != bt217.2.2) bt217.1 bt217.2.1 bt226.1 bt226.2.1) else (zc.j0 k a0 l1 bt217.2.2 t223 bt226.2.2 true bt217.1 bt217.2.1 bt226.1 bt226.2.1)))))))) = some r := h
 clear h
 by_cases c3 : (l1.length : Int) > 1048576
 ·rw [if_pos c3] at H
  have c3b0 : decide (1048576 < (l1.length : Int)) = true := decide_eq_true c3
  have c3b1 : decide (1048576 < l1.length) = true := decide_eq_true (by omega)
  clear c3
  obtain rfl := Option.some.inj H
  go_enter Try.func8, Try.ntmps8
  go_wp2
  go_ret
  exact ⟨sqE, sqB⟩
 ·rw [if_neg c3] at H
  have c3b0 : decide (1048576 < (l1.length : Int)) = false := decide_eq_false c3
  have c3b1 : decide (1048576 < l1.length) = false := decide_eq_false (by omega)
  clear c3
  replace H := Option.bind_eq_some_iff.mp H
  obtain ⟨t214, A40, H⟩ := H
  replace H : ((zj.f k a0 t214).bind fun bt217 => ((zI.f k l1).bind fun t223 => ((zf.f k a0 t223).bind fun bt226 => ((zy.f k bt226.1 bt226.2.1 bt217.1 bt217.2.1).bind fun t232 => (if t232 = true then (zc.j0 k a0 l1 bt217.2.2 t223 bt226.2.2 (bt226.2.2 != bt217.2.2) bt217.1 bt217.2.1 bt226.1 bt226.2.1) else (zc.j0 k a0 l1 bt217.2.2 t223 bt226.2.2 true bt217.1 bt217.2.1 bt226.1 bt226.2.1)))))) = some r := H
  have A4 := Aside0.mk A40
  clear A40
  replace H := Option.bind_eq_some_iff.mp H
  obtain ⟨⟨t217, t218, t221⟩, A50, H⟩ := H
  replace H : ((zI.f k l1).bind fun t223 => ((zf.f k a0 t223).bind fun bt226 => ((zy.f k bt226.1 bt226.2.1 t217 t218).bind fun t232 => (if t232 = true then (zc.j0 k a0 l1 t221 t223 bt226.2.2 (bt226.2.2 != t221) t217 t218 bt226.1 bt226.2.1) else (zc.j0 k a0 l1 t221 t223 bt226.2.2 true t217 t218 bt226.1 bt226.2.1))))) = some r := H
  have A5 := Aside0.mk A50
  clear A50
  replace H := Option.bind_eq_some_iff.mp H
  obtain ⟨t223, A60, H⟩ := H
  replace H : ((zf.f k a0 t223).bind fun bt226 => ((zy.f k bt226.1 bt226.2.1 t217 t218).bind fun t232 => (if t232 = true then (zc.j0 k a0 l1 t221 t223 bt226.2.2 (bt226.2.2 != t221) t217 t218 bt226.1 bt226.2.1) else (zc.j0 k a0 l1 t221 t223 bt226.2.2 true t217 t218 bt226.1 bt226.2.1)))) = some r := H
  have A6 := Aside0.mk A60
  clear A60
  replace H := Option.bind_eq_some_iff.mp H
  obtain ⟨⟨t226, t227, t230⟩, A70, H⟩ := H
  replace H : ((zy.f k t226 t227 t217 t218).bind fun t232 => (if t232 = true then (zc.j0 k a0 l1 t221 t223 t230 (t230 != t221) t217 t218 t226 t227) else (zc.j0 k a0 l1 t221 t223 t230 true t217 t218 t226 t227))) = some r := H
  have A7 := Aside0.mk A70
  clear A70
  have HC8 := Aside0.mk H
  clear H
  go_enter Try.func8, Try.ntmps8
  go_upto_region 6 with (first | ((with_reducible refine zg (f := 30) rfl ?_); refine zx (some 21) rfl rfl Try.func30 (by kernel_rfl) rfl #[.slice A1 l1.length c1] rfl sqM ?_; (with_reducible refine (zI.calls k _ _ l1 t214 _ ?side1 ?side2 A4.out).mono ?_); (case side1 => exact sqC HR1.out); (case side2 => exact HC1.out); rintro e w9 ⟨v215, rfl, ho0, hb⟩; refine ⟨_, rfl, ?_⟩; have n0_ := Aside0.mk (Kd.qf ho0 (zt sqB)); have n1_ := Aside0.mk (ze sqB hb); clear HB; have HO216 := n0_; have HB := n1_; clear n0_ n1_; (try clear hb); (try clear hb2); (try clear hk); (try clear hi); (try clear ho0); obtain ⟨Ao10, co10, eo10⟩ := Kd.qc HO216.out; subst eo10) | ((with_reducible refine zg (f := 29) rfl ?_); refine zx (some 22) rfl rfl Try.func29 (by kernel_rfl) rfl #[.int .i64 a0, .slice Ao10 t214.length co10] rfl sqM ?_; (with_reducible refine (zj.calls k a0 _ _ t214 t217 t218 t221 _ ?side1 ?side2 A5.out).mono ?_); (case side1 => exact sqC (Kd.zm HO216.out).2.2); (case side2 => exact (Kd.zm HO216.out).2.1); rintro e w11 ⟨v219, rfl, ho0, hb⟩; refine ⟨_, rfl, ?_⟩; have n0_ := Aside0.mk (Kd.qi (sqR HO216.out) (Kd.qB ho0) hb); have n1_ := Aside0.mk (Kd.qf (Kd.qC ho0 (Kd.ju (sqR HO216.out))) (zt sqB)); have n2_ := Aside0.mk (ze sqB hb); clear HO216; clear HB; have HO216 := n0_; have HO220 := n1_; have HB := n2_; clear n0_ n1_ n2_; (try clear hb); (try clear hb2); (try clear hk); (try clear hi); (try clear ho0)) | ((with_reducible refine zr (N := 5) rfl ?_); refine zq ?hg (N := 5) ?hd (cs := #[.int .i64 0, .slice none 0 0]) (t := 27) ?hr ?_; (case hd => rfl); (case hg => rfl); (case hr => exact sqG); intro gb222 hg w12 hbox hb; have n0_ := Aside0.mk (Kd.zJ (sqR HO216.out) hb); have n1_ := Aside0.mk (Kd.zJ (sqR HO220.out) hb); have n2_ := Aside0.mk (ze sqB hb); have n3_ := Aside0.mk (hbox); have n4_ := Aside0.mk ((sqS hg : w.heap.size ≤ gb222)); have n5_ := Aside0.mk ((sqS hg : w.heap.size ≤ gb222)); clear HO216; clear HO220; clear HB; have HO216 := n0_; have HO220 := n1_; have HB := n2_; have BK222 := n3_; have GW222 := n4_; have GE222 := n5_; clear n0_ n1_ n2_ n3_ n4_ n5_; clear hb hbox hg; have hcz13_0 : w12.cell? ⟨gb222, 0, none⟩ = some (.int .i64 0) := (za BK222.out 0).trans rfl; have hcz13_1 : w12.cell? ⟨gb222, 1, none⟩ = some (.slice none 0 0) := (za BK222.out 1).trans rfl; have hfz13_0 := zb BK222.out 0; have hfz13_1 := zb BK222.out 1; obtain ⟨Ao14, co14, eo14⟩ := Kd.qc HO220.out; subst eo14) | ((with_reducible refine zg (f := 30) rfl ?_); refine zx (some 26) rfl rfl Try.func30 (by kernel_rfl) rfl #[.slice A1 l1.length c1] rfl sqM ?_; (with_reducible refine (zI.calls k _ _ l1 t223 _ ?side1 ?side2 A6.out).mono ?_); (case side1 => exact Kd.zH HR1.out sqB); (case side2 => exact HC1.out); rintro e w15 ⟨v224, rfl, ho0, hb⟩; refine ⟨_, rfl, ?_⟩; have n0_ := Aside0.mk (Kd.qi (by refine sqR ?_; exact (Kd.zN (Kd.zW (p := ⟨gb222, 1, none⟩) (Kd.zW (p := ⟨gb222, 0, none⟩) (Kd.qa HO216.out BK222.out (by decide)) (fun _ hk => hk.2) (.int .i64 t217)) (fun _ hk => hk.2) (.slice Ao14 t218.length co14)) (fun _ h_ => h_.1))) (Kd.qB ho0) hb); have n1_ := Aside0.mk (Kd.qi (by refine sqR ?_; exact (Kd.zN (Kd.zW (p := ⟨gb222, 1, none⟩) (Kd.zW (p := ⟨gb222, 0, none⟩) (Kd.qa HO220.out BK222.out (by decide)) (fun _ hk => hk.2) (.int .i64 t217)) (fun _ hk => hk.2) (.slice Ao14 t218.length co14)) (fun _ h_ => h_.1))) (Kd.qB ho0) hb); have n2_ := Aside0.mk (Kd.qf (Kd.qC (Kd.qC ho0 (Kd.ju (by refine sqR ?_; exact (Kd.zN (Kd.zW (p := ⟨gb222, 1, none⟩) (Kd.zW (p := ⟨gb222, 0, none⟩) (Kd.qa HO216.out BK222.out (by decide)) (fun _ hk => hk.2) (.int .i64 t217)) (fun _ hk => hk.2) (.slice Ao14 t218.length co14)) (fun _ h_ => h_.1))))) (Kd.ju (by refine sqR ?_; exact (Kd.zN (Kd.zW (p := ⟨gb222, 1, none⟩) (Kd.zW (p := ⟨gb222, 0, none⟩) (Kd.qa HO220.out BK222.out (by decide)) (fun _ hk => hk.2) (.int .i64 t217)) (fun _ hk => hk.2) (.slice Ao14 t218.length co14)) (fun _ h_ => h_.1))))) (zt sqB)); have n3_ := Aside0.mk (zd (g := gb222) (o := .cells #[.int .i64 t217, .slice Ao14 t218.length co14] 27 (0, 0)) (by refine sqK ?_; refine zM (cs := #[.int .i64 t217, .slice none 0 0]) ?_ 1 _ rfl; refine sqK ?_; refine zM (cs := #[.int .i64 0, .slice none 0 0]) ?_ 0 _ rfl; refine sqK ?_; exact BK222.out) hb); have n4_ := Aside0.mk (ze sqB hb); clear HO216; clear HO220; clear BK222; clear HB; have HO216 := n0_; have HO220 := n1_; have HO225 := n2_; have BK222 := n3_; have HB := n4_; clear n0_ n1_ n2_ n3_ n4_; (try clear hb); (try clear hb2); (try clear hk); (try clear hi); (try clear ho0); obtain ⟨Ao16, co16, eo16⟩ := Kd.qc HO225.out; subst eo16) | ((with_reducible refine zg (f := 31) rfl ?_); refine zx (some 30) rfl rfl Try.func31 (by kernel_rfl) rfl #[.int .i64 a0, .slice Ao16 t223.length co16] rfl sqM ?_; (with_reducible refine (zf.calls k a0 _ _ t223 t226 t227 t230 _ ?side1 ?side2 A7.out).mono ?_); (case side1 => exact sqC (Kd.zm HO225.out).2.2); (case side2 => exact (Kd.zm HO225.out).2.1); rintro e w17 ⟨v228, rfl, ho0, hb⟩; refine ⟨_, rfl, ?_⟩; have n0_ := Aside0.mk (Kd.qi (sqR HO216.out) (Kd.qB ho0) hb); have n1_ := Aside0.mk (Kd.qi (sqR HO220.out) (Kd.qB ho0) hb); have n2_ := Aside0.mk (Kd.qi (sqR HO225.out) (Kd.qB ho0) hb); have n3_ := Aside0.mk (Kd.qf (Kd.qC (Kd.qC (Kd.qC ho0 (Kd.ju (sqR HO216.out))) (Kd.ju (sqR HO220.out))) (Kd.ju (sqR HO225.out))) (zt sqB)); have n4_ := Aside0.mk (zd (g := gb222) (o := .cells #[.int .i64 t217, .slice Ao14 t218.length co14] 27 (0, 0)) (sqK BK222.out) hb); have n5_ := Aside0.mk (ze sqB hb); clear HO216; clear HO220; clear HO225; clear BK222; clear HB; have HO216 := n0_; have HO220 := n1_; have HO225 := n2_; have HO229 := n3_; have BK222 := n4_; have HB := n5_; clear n0_ n1_ n2_ n3_ n4_ n5_; (try clear hb); (try clear hb2); (try clear hk); (try clear hi); (try clear ho0)) | ((with_reducible refine zr (N := 8) rfl ?_); refine zq ?hg (N := 8) ?hd (cs := #[.int .i64 0, .slice none 0 0]) (t := 27) ?hr ?_; (case hd => rfl); (case hg => rfl); (case hr => exact sqG); intro gb231 hg w18 hbox hb; have n0_ := Aside0.mk (Kd.zJ (sqR HO216.out) hb); have n1_ := Aside0.mk (Kd.zJ (sqR HO220.out) hb); have n2_ := Aside0.mk (Kd.zJ (sqR HO225.out) hb); have n3_ := Aside0.mk (Kd.zJ (sqR HO229.out) hb); have n4_ := Aside0.mk (zd (g := gb222) (o := .cells #[.int .i64 t217, .slice Ao14 t218.length co14] 27 (0, 0)) (sqK BK222.out) hb); have n5_ := Aside0.mk (ze sqB hb); have n6_ := Aside0.mk (hbox); have n7_ := Aside0.mk ((sqS hg : w.heap.size ≤ gb231)); have n8_ := Aside0.mk ((sqS hg : w.heap.size ≤ gb231)); have n9_ := Aside0.mk ((by rw [hg]; exact Nat.ne_of_lt (zR (g := gb222) (o := .cells #[.int .i64 t217, .slice Ao14 t218.length co14] 27 (0, 0)) (sqK BK222.out)) : gb222 ≠ gb231)); have n10_ := Aside0.mk ((by rw [hg]; exact Nat.ne_of_gt (zR (g := gb222) (o := .cells #[.int .i64 t217, .slice Ao14 t218.length co14] 27 (0, 0)) (sqK BK222.out)) : gb231 ≠ gb222)); clear HO216; clear HO220; clear HO225; clear HO229; clear BK222; clear HB; have HO216 := n0_; have HO220 := n1_; have HO225 := n2_; have HO229 := n3_; have BK222 := n4_; have HB := n5_; have BK231 := n6_; have GW231 := n7_; have GE231 := n8_; have NB222_231 := n9_; have NB231_222 := n10_; clear n0_ n1_ n2_ n3_ n4_ n5_ n6_ n7_ n8_ n9_ n10_; clear hb hbox hg; have hnb19 := NB231_222.out; have hnc19 := NB222_231.out; have hcz20_0 : w18.cell? ⟨gb231, 0, none⟩ = some (.int .i64 0) := (za BK231.out 0).trans rfl; have hcz20_1 : w18.cell? ⟨gb231, 1, none⟩ = some (.slice none 0 0) := (za BK231.out 1).trans rfl; have hfz20_0 := zb BK231.out 0; have hfz20_1 := zb BK231.out 1; obtain ⟨Ao21, co21, eo21⟩ := Kd.qc HO229.out; subst eo21))
  (try simp only [Act.put, List.setIfInBounds_toArray, List.set_cons_zero, List.set_cons_succ])
  go_cut [41] (fun v41 wc => ∃ (kq : Nat) (x41_7 : Bool), v41 = .bool x41_7 ∧ Aside0 (zc.j0 kq a0 l1 t221 t223 t230 x41_7 t217 t218 t226 t227 = some r) ∧ Aside0 (kq ≤ k) ∧ Aside0 (Kd.R (Kd.int .i64) 3 wc w.heap.size (fun k_ => some k_ ≠ ((.slice Ao14 t218.length co14) : Value).ownBlock ∧ some k_ ≠ ((.slice Ao21 t227.length co21) : Value).ownBlock) (.slice Ao16 t223.length co16) t223) ∧ Aside0 (Kd.R (Kd.int .i64) 3 wc w.heap.size (fun k_ => some k_ ≠ ((.slice Ao16 t223.length co16) : Value).ownBlock ∧ some k_ ≠ ((.slice Ao21 t227.length co21) : Value).ownBlock) (.slice Ao14 t218.length co14) t218) ∧ Aside0 (Kd.R (Kd.int .i64) 3 wc w.heap.size (fun k_ => some k_ ≠ ((.slice Ao16 t223.length co16) : Value).ownBlock ∧ some k_ ≠ ((.slice Ao14 t218.length co14) : Value).ownBlock) (.slice Ao21 t227.length co21) t227) ∧ Aside0 (wc.heap[gb222]? = some (.cells #[.int .i64 t217, (.slice Ao14 t218.length co14)] 27 (0, 0))) ∧ Aside0 (wc.heap[gb231]? = some (.cells #[.int .i64 t226, (.slice Ao21 t227.length co21)] 27 (0, 0))) ∧ Aside0 (Below w.heap.size w wc))
  case first =>
   have H := HC8.out
   clear HC8
   replace H := Option.bind_eq_some_iff.mp H
   obtain ⟨t232, A220, H⟩ := H
   replace H : (if t232 = true then (zc.j0 k a0 l1 t221 t223 t230 (t230 != t221) t217 t218 t226 t227) else (zc.j0 k a0 l1 t221 t223 t230 true t217 t218 t226 t227)) = some r := H
   have A22 := Aside0.mk A220
   clear A220
   by_cases c23 : t232 = true
   ·subst c23
    have H1 : (zc.j0 k a0 l1 t221 t223 t230 (t230 != t221) t217 t218 t226 t227) = some r := by rw [if_pos rfl] at H; exact H
    clear H
    have H := H1
    clear H1
    have H' := Aside0.mk H
    clear H
    have hnb24 := NB231_222.out
    have hnc24 := NB222_231.out
    have hcz25_0 : w18.cell? ⟨gb231, 0, none⟩ = some (.int .i64 0) := (za BK231.out 0).trans rfl
    have hcz25_1 : w18.cell? ⟨gb231, 1, none⟩ = some (.slice none 0 0) := (za BK231.out 1).trans rfl
    have hfz25_0 := zb BK231.out 0; have hfz25_1 := zb BK231.out 1
    have hcz26_0 : w18.cell? ⟨gb222, 0, none⟩ = some (.int .i64 t217) := (za BK222.out 0).trans rfl
    have hcz26_1 : w18.cell? ⟨gb222, 1, none⟩ = some (.slice Ao14 t218.length co14) := (za BK222.out 1).trans rfl
    have hfz26_0 := zb BK222.out 0; have hfz26_1 := zb BK222.out 1
    go_wp2_with (first | ((with_reducible refine zg (f := 16) rfl ?_); refine zx (some 35) rfl rfl Try.func16 (by kernel_rfl) rfl #[.agg #[.int .i64 t226, .slice Ao21 t227.length co21], .agg #[.int .i64 t217, .slice Ao14 t218.length co14]] rfl sqM ?_; (with_reducible refine (zy.calls k t226 _ _ t227 t217 _ _ t218 true _ ?side1 ?side2 ?side3 ?side4 A22.out).mono ?_); (case side1 => refine (Kd.zm (e := 3) (base := w.heap.size) (ok := fun k_ => (((True ∧ some k_ ≠ (.slice Ao10 t214.length co10 : Value).ownBlock) ∧ some k_ ≠ (.slice Ao14 t218.length co14 : Value).ownBlock) ∧ some k_ ≠ (.slice Ao16 t223.length co16 : Value).ownBlock)) (n := t227.length) (c := co21) ?_).2.2; exact (by refine sqR ?_; exact (Kd.zN (Kd.zW (p := ⟨gb231, 1, none⟩) (Kd.zW (p := ⟨gb231, 0, none⟩) (Kd.qa HO229.out BK231.out (by decide)) (fun _ hk => hk.2) (.int .i64 t226)) (fun _ hk => hk.2) (.slice Ao21 t227.length co21)) (fun _ h_ => h_.1)))); (case side2 => exact (Kd.zm HO229.out).2.1); (case side3 => refine (Kd.zm (e := 3) (base := w.heap.size) (ok := fun k_ => (((True ∧ some k_ ≠ (.slice Ao10 t214.length co10 : Value).ownBlock) ∧ some k_ ≠ (.slice Ao16 t223.length co16 : Value).ownBlock) ∧ some k_ ≠ (.slice Ao21 t227.length co21 : Value).ownBlock)) (n := t218.length) (c := co14) ?_).2.2; exact (by refine sqR ?_; exact (Kd.zN (Kd.zW (p := ⟨gb231, 1, none⟩) (Kd.zW (p := ⟨gb231, 0, none⟩) (Kd.qa HO220.out BK231.out (by decide)) (fun _ hk => hk.2) (.int .i64 t226)) (fun _ hk => hk.2) (.slice Ao21 t227.length co21)) (fun _ h_ => h_.1)))); (case side4 => exact (Kd.zm HO220.out).2.1); rintro e w27 ⟨rfl, hb⟩; refine ⟨_, rfl, ?_⟩; have n0_ := Aside0.mk (Kd.zJ (by refine sqR ?_; exact (Kd.zN (Kd.zW (p := ⟨gb231, 1, none⟩) (Kd.zW (p := ⟨gb231, 0, none⟩) (Kd.qa HO216.out BK231.out (by decide)) (fun _ hk => hk.2) (.int .i64 t226)) (fun _ hk => hk.2) (.slice Ao21 t227.length co21)) (fun _ h_ => h_.1))) hb); have n1_ := Aside0.mk (Kd.zJ (by refine sqR ?_; exact (Kd.zN (Kd.zW (p := ⟨gb231, 1, none⟩) (Kd.zW (p := ⟨gb231, 0, none⟩) (Kd.qa HO220.out BK231.out (by decide)) (fun _ hk => hk.2) (.int .i64 t226)) (fun _ hk => hk.2) (.slice Ao21 t227.length co21)) (fun _ h_ => h_.1))) hb); have n2_ := Aside0.mk (Kd.zJ (by refine sqR ?_; exact (Kd.zN (Kd.zW (p := ⟨gb231, 1, none⟩) (Kd.zW (p := ⟨gb231, 0, none⟩) (Kd.qa HO225.out BK231.out (by decide)) (fun _ hk => hk.2) (.int .i64 t226)) (fun _ hk => hk.2) (.slice Ao21 t227.length co21)) (fun _ h_ => h_.1))) hb); have n3_ := Aside0.mk (Kd.zJ (by refine sqR ?_; exact (Kd.zN (Kd.zW (p := ⟨gb231, 1, none⟩) (Kd.zW (p := ⟨gb231, 0, none⟩) (Kd.qa HO229.out BK231.out (by decide)) (fun _ hk => hk.2) (.int .i64 t226)) (fun _ hk => hk.2) (.slice Ao21 t227.length co21)) (fun _ h_ => h_.1))) hb); have n4_ := Aside0.mk (zd (g := gb222) (o := .cells #[.int .i64 t217, .slice Ao14 t218.length co14] 27 (0, 0)) (by refine sqK ?_; refine qn ?_ NB222_231.out _; refine sqK ?_; refine qn ?_ NB222_231.out _; refine sqK ?_; exact BK222.out) hb); have n5_ := Aside0.mk (zd (g := gb231) (o := .cells #[.int .i64 t226, .slice Ao21 t227.length co21] 27 (0, 0)) (by refine sqK ?_; refine zM (cs := #[.int .i64 t226, .slice none 0 0]) ?_ 1 _ rfl; refine sqK ?_; refine zM (cs := #[.int .i64 0, .slice none 0 0]) ?_ 0 _ rfl; refine sqK ?_; exact BK231.out) hb); have n6_ := Aside0.mk (ze sqB hb); clear HO216; clear HO220; clear HO225; clear HO229; clear BK222; clear BK231; clear HB; have HO216 := n0_; have HO220 := n1_; have HO225 := n2_; have HO229 := n3_; have BK222 := n4_; have BK231 := n5_; have HB := n6_; clear n0_ n1_ n2_ n3_ n4_ n5_ n6_; (try clear hb); (try clear hb2); (try clear hk); (try clear hi)))
    go_meet
    case rel => exact ⟨_, ((t230 != t221)), (sqD), H', ⟨by first | omega | exact Nat.le_refl _⟩, ⟨by refine sqR ?_; exact Kd.zN HO225.out (fun _ hk => by first | exact ⟨hk.1.2, hk.2⟩ | (refine ⟨?_, ?_⟩ <;> intro e_ <;> simp only [e_, ne_eq, not_true_eq_false, and_false, false_and] at hk))⟩, ⟨by refine sqR ?_; exact Kd.zN HO220.out (fun _ hk => by first | exact ⟨hk.1.2, hk.2⟩ | (refine ⟨?_, ?_⟩ <;> intro e_ <;> simp only [e_, ne_eq, not_true_eq_false, and_false, false_and] at hk))⟩, ⟨by refine sqR ?_; exact Kd.zN HO229.out (fun _ hk => by first | exact ⟨hk.2, hk.1.2⟩ | (refine ⟨?_, ?_⟩ <;> intro e_ <;> simp only [e_, ne_eq, not_true_eq_false, and_false, false_and] at hk))⟩, ⟨sqK BK222.out⟩, ⟨sqK BK231.out⟩, ⟨sqB⟩⟩
   ·replace c23 := Bool.eq_false_iff.mpr c23
    subst c23
    have H1 : (zc.j0 k a0 l1 t221 t223 t230 true t217 t218 t226 t227) = some r := by rw [if_neg (show ¬ (false = true) by decide)] at H; exact H
    clear H
    have H := H1
    clear H1
    have H' := Aside0.mk H
    clear H
    have hnb28 := NB231_222.out
    have hnc28 := NB222_231.out
    have hcz29_0 : w18.cell? ⟨gb231, 0, none⟩ = some (.int .i64 0) := (za BK231.out 0).trans rfl
    have hcz29_1 : w18.cell? ⟨gb231, 1, none⟩ = some (.slice none 0 0) := (za BK231.out 1).trans rfl
    have hfz29_0 := zb BK231.out 0; have hfz29_1 := zb BK231.out 1
    have hcz30_0 : w18.cell? ⟨gb222, 0, none⟩ = some (.int .i64 t217) := (za BK222.out 0).trans rfl
    have hcz30_1 : w18.cell? ⟨gb222, 1, none⟩ = some (.slice Ao14 t218.length co14) := (za BK222.out 1).trans rfl
    have hfz30_0 := zb BK222.out 0; have hfz30_1 := zb BK222.out 1
    go_wp2_with (first | ((with_reducible refine zg (f := 16) rfl ?_); refine zx (some 35) rfl rfl Try.func16 (by kernel_rfl) rfl #[.agg #[.int .i64 t226, .slice Ao21 t227.length co21], .agg #[.int .i64 t217, .slice Ao14 t218.length co14]] rfl sqM ?_; (with_reducible refine (zy.calls k t226 _ _ t227 t217 _ _ t218 false _ ?side1 ?side2 ?side3 ?side4 A22.out).mono ?_); (case side1 => refine (Kd.zm (e := 3) (base := w.heap.size) (ok := fun k_ => (((True ∧ some k_ ≠ (.slice Ao10 t214.length co10 : Value).ownBlock) ∧ some k_ ≠ (.slice Ao14 t218.length co14 : Value).ownBlock) ∧ some k_ ≠ (.slice Ao16 t223.length co16 : Value).ownBlock)) (n := t227.length) (c := co21) ?_).2.2; exact (by refine sqR ?_; exact (Kd.zN (Kd.zW (p := ⟨gb231, 1, none⟩) (Kd.zW (p := ⟨gb231, 0, none⟩) (Kd.qa HO229.out BK231.out (by decide)) (fun _ hk => hk.2) (.int .i64 t226)) (fun _ hk => hk.2) (.slice Ao21 t227.length co21)) (fun _ h_ => h_.1)))); (case side2 => exact (Kd.zm HO229.out).2.1); (case side3 => refine (Kd.zm (e := 3) (base := w.heap.size) (ok := fun k_ => (((True ∧ some k_ ≠ (.slice Ao10 t214.length co10 : Value).ownBlock) ∧ some k_ ≠ (.slice Ao16 t223.length co16 : Value).ownBlock) ∧ some k_ ≠ (.slice Ao21 t227.length co21 : Value).ownBlock)) (n := t218.length) (c := co14) ?_).2.2; exact (by refine sqR ?_; exact (Kd.zN (Kd.zW (p := ⟨gb231, 1, none⟩) (Kd.zW (p := ⟨gb231, 0, none⟩) (Kd.qa HO220.out BK231.out (by decide)) (fun _ hk => hk.2) (.int .i64 t226)) (fun _ hk => hk.2) (.slice Ao21 t227.length co21)) (fun _ h_ => h_.1)))); (case side4 => exact (Kd.zm HO220.out).2.1); rintro e w31 ⟨rfl, hb⟩; refine ⟨_, rfl, ?_⟩; have n0_ := Aside0.mk (Kd.zJ (by refine sqR ?_; exact (Kd.zN (Kd.zW (p := ⟨gb231, 1, none⟩) (Kd.zW (p := ⟨gb231, 0, none⟩) (Kd.qa HO216.out BK231.out (by decide)) (fun _ hk => hk.2) (.int .i64 t226)) (fun _ hk => hk.2) (.slice Ao21 t227.length co21)) (fun _ h_ => h_.1))) hb); have n1_ := Aside0.mk (Kd.zJ (by refine sqR ?_; exact (Kd.zN (Kd.zW (p := ⟨gb231, 1, none⟩) (Kd.zW (p := ⟨gb231, 0, none⟩) (Kd.qa HO220.out BK231.out (by decide)) (fun _ hk => hk.2) (.int .i64 t226)) (fun _ hk => hk.2) (.slice Ao21 t227.length co21)) (fun _ h_ => h_.1))) hb); have n2_ := Aside0.mk (Kd.zJ (by refine sqR ?_; exact (Kd.zN (Kd.zW (p := ⟨gb231, 1, none⟩) (Kd.zW (p := ⟨gb231, 0, none⟩) (Kd.qa HO225.out BK231.out (by decide)) (fun _ hk => hk.2) (.int .i64 t226)) (fun _ hk => hk.2) (.slice Ao21 t227.length co21)) (fun _ h_ => h_.1))) hb); have n3_ := Aside0.mk (Kd.zJ (by refine sqR ?_; exact (Kd.zN (Kd.zW (p := ⟨gb231, 1, none⟩) (Kd.zW (p := ⟨gb231, 0, none⟩) (Kd.qa HO229.out BK231.out (by decide)) (fun _ hk => hk.2) (.int .i64 t226)) (fun _ hk => hk.2) (.slice Ao21 t227.length co21)) (fun _ h_ => h_.1))) hb); have n4_ := Aside0.mk (zd (g := gb222) (o := .cells #[.int .i64 t217, .slice Ao14 t218.length co14] 27 (0, 0)) (by refine sqK ?_; refine qn ?_ NB222_231.out _; refine sqK ?_; refine qn ?_ NB222_231.out _; refine sqK ?_; exact BK222.out) hb); have n5_ := Aside0.mk (zd (g := gb231) (o := .cells #[.int .i64 t226, .slice Ao21 t227.length co21] 27 (0, 0)) (by refine sqK ?_; refine zM (cs := #[.int .i64 t226, .slice none 0 0]) ?_ 1 _ rfl; refine sqK ?_; refine zM (cs := #[.int .i64 0, .slice none 0 0]) ?_ 0 _ rfl; refine sqK ?_; exact BK231.out) hb); have n6_ := Aside0.mk (ze sqB hb); clear HO216; clear HO220; clear HO225; clear HO229; clear BK222; clear BK231; clear HB; have HO216 := n0_; have HO220 := n1_; have HO225 := n2_; have HO229 := n3_; have BK222 := n4_; have BK231 := n5_; have HB := n6_; clear n0_ n1_ n2_ n3_ n4_ n5_ n6_; (try clear hb); (try clear hb2); (try clear hk); (try clear hi)))
    go_meet
    case rel => exact ⟨_, (true), (sqD), H', ⟨by first | omega | exact Nat.le_refl _⟩, ⟨by refine sqR ?_; exact Kd.zN HO225.out (fun _ hk => by first | exact ⟨hk.1.2, hk.2⟩ | (refine ⟨?_, ?_⟩ <;> intro e_ <;> simp only [e_, ne_eq, not_true_eq_false, and_false, false_and] at hk))⟩, ⟨by refine sqR ?_; exact Kd.zN HO220.out (fun _ hk => by first | exact ⟨hk.1.2, hk.2⟩ | (refine ⟨?_, ?_⟩ <;> intro e_ <;> simp only [e_, ne_eq, not_true_eq_false, and_false, false_and] at hk))⟩, ⟨by refine sqR ?_; exact Kd.zN HO229.out (fun _ hk => by first | exact ⟨hk.2, hk.1.2⟩ | (refine ⟨?_, ?_⟩ <;> intro e_ <;> simp only [e_, ne_eq, not_true_eq_false, and_false, false_and] at hk))⟩, ⟨sqK BK222.out⟩, ⟨sqK BK231.out⟩, ⟨sqB⟩⟩
  case rest =>
   clear HC8
   try clear c1
   try clear c2
   try clear p2
   try clear c3
   try clear c3b0
   try clear c3b1
   try clear c8
   try clear c16
   try clear c19
   try clear c23
   try clear c24
   try clear c28
   try clear c29
   try clear c30
   try clear c31
   try clear hcz13_0
   try clear hcz13_1
   try clear hcz20_0
   try clear hcz20_1
   try clear hcz25_0
   try clear hcz25_1
   try clear hcz26_0
   try clear hcz26_1
   try clear hcz29_0
   try clear hcz29_1
   try clear hcz30_0
   try clear hcz30_1
   try clear hfz13_0
   try clear hfz13_1
   try clear hfz20_0
   try clear hfz20_1
   try clear hfz25_0
   try clear hfz25_1
   try clear hfz26_0
   try clear hfz26_1
   try clear hfz29_0
   try clear hfz29_1
   try clear hfz30_0
   try clear hfz30_1
   obtain ⟨kq, x41_7, rfl, HA, HJ7, HO_7, HO_223001, HO_232001, BK222, BK231, HB⟩ := hcut
   cases kq with
   | zero => exact absurd HA.out (by simp [zc.j0])
   | succ kj7 =>
    have H := HA.out
    clear HA
    simp only [zc.j0] at H
    by_cases c32 : x41_7 = true
    ·subst c32
     have H1 : (none) = some r := by rw [if_pos rfl] at H; exact H
     clear H
     have H := H1
     clear H1
     exact absurd H (by simp)
    ·replace c32 := Bool.eq_false_iff.mpr c32
     subst c32
     have H1 : ((zI.f kj7 l1).bind fun t233 => ((zY.f kj7 t223 t233).bind fun t236 => (if t236 = true then ((zL.f kj7 t223 1).bind fun bt237 => (if bt237.1 < 0 then (zc.j1 kj7 a0 l1 t221 true t217 t218 t226 t227) else ((zy.f kj7 t226 t227 t217 t218).bind fun t239 => (if t239 = true then (zc.j1 kj7 a0 l1 t221 (t230 != t221) t217 t218 t226 t227) else (zc.j1 kj7 a0 l1 t221 true t217 t218 t226 t227))))) else (none)))) = some r := by rw [if_neg (show ¬ (false = true) by decide)] at H; exact H
     clear H
     have H := H1
     clear H1
     replace H := Option.bind_eq_some_iff.mp H
     obtain ⟨t233, A330, H⟩ := H
     replace H : ((zY.f kj7 t223 t233).bind fun t236 => (if t236 = true then ((zL.f kj7 t223 1).bind fun bt237 => (if bt237.1 < 0 then (zc.j1 kj7 a0 l1 t221 true t217 t218 t226 t227) else ((zy.f kj7 t226 t227 t217 t218).bind fun t239 => (if t239 = true then (zc.j1 kj7 a0 l1 t221 (t230 != t221) t217 t218 t226 t227) else (zc.j1 kj7 a0 l1 t221 true t217 t218 t226 t227))))) else (none))) = some r := H
     have A33 := Aside0.mk A330
     clear A330
     replace H := Option.bind_eq_some_iff.mp H
     obtain ⟨t236, A340, H⟩ := H
     replace H : (if t236 = true then ((zL.f kj7 t223 1).bind fun bt237 => (if bt237.1 < 0 then (zc.j1 kj7 a0 l1 t221 true t217 t218 t226 t227) else ((zy.f kj7 t226 t227 t217 t218).bind fun t239 => (if t239 = true then (zc.j1 kj7 a0 l1 t221 (t230 != t221) t217 t218 t226 t227) else (zc.j1 kj7 a0 l1 t221 true t217 t218 t226 t227))))) else (none)) = some r := H
     have A34 := Aside0.mk A340
     clear A340
     by_cases c35 : t236 = true
     ·subst c35
      have H1 : ((zL.f kj7 t223 1).bind fun bt237 => (if bt237.1 < 0 then (zc.j1 kj7 a0 l1 t221 true t217 t218 t226 t227) else ((zy.f kj7 t226 t227 t217 t218).bind fun t239 => (if t239 = true then (zc.j1 kj7 a0 l1 t221 (t230 != t221) t217 t218 t226 t227) else (zc.j1 kj7 a0 l1 t221 true t217 t218 t226 t227))))) = some r := by rw [if_pos rfl] at H; exact H
      clear H
      have H := H1
      clear H1
      replace H := Option.bind_eq_some_iff.mp H
      obtain ⟨⟨t237, t238⟩, A360, H⟩ := H
      replace H : (if t237 < 0 then (zc.j1 kj7 a0 l1 t221 true t217 t218 t226 t227) else ((zy.f kj7 t226 t227 t217 t218).bind fun t239 => (if t239 = true then (zc.j1 kj7 a0 l1 t221 (t230 != t221) t217 t218 t226 t227) else (zc.j1 kj7 a0 l1 t221 true t217 t218 t226 t227)))) = some r := H
      have A36 := Aside0.mk A360
      clear A360
      have HC37 := Aside0.mk H
      clear H
      go_upto_region 12 with (first | ((with_reducible refine zg (f := 30) rfl ?_); refine zx (some 44) rfl rfl Try.func30 (by kernel_rfl) rfl #[.slice A1 l1.length c1] rfl sqM ?_; (with_reducible refine (zI.calls kj7 _ _ l1 t233 _ ?side1 ?side2 A33.out).mono ?_); (case side1 => exact sqC (Kd.zH HR1.out HB.out)); (case side2 => exact HC1.out); rintro e w38 ⟨v234, rfl, ho0, hb⟩; refine ⟨_, rfl, ?_⟩; have n0_ := Aside0.mk (Kd.qi (sqR HO_7.out) (Kd.qB ho0) hb); have n1_ := Aside0.mk (Kd.qi (sqR HO_223001.out) (Kd.qB ho0) hb); have n2_ := Aside0.mk (Kd.qi (sqR HO_232001.out) (Kd.qB ho0) hb); have n3_ := Aside0.mk (Kd.qf (Kd.qC (Kd.qC (Kd.qC ho0 (Kd.ju (sqR HO_7.out))) (Kd.ju (sqR HO_223001.out))) (Kd.ju (sqR HO_232001.out))) (zt sqB)); have n4_ := Aside0.mk (zd (g := gb222) (o := .cells #[.int .i64 t217, .slice Ao14 t218.length co14] 27 (0, 0)) (sqK BK222.out) hb); have n5_ := Aside0.mk (zd (g := gb231) (o := .cells #[.int .i64 t226, .slice Ao21 t227.length co21] 27 (0, 0)) (sqK BK231.out) hb); have n6_ := Aside0.mk (ze sqB hb); clear HO_7; clear HO_223001; clear HO_232001; clear BK222; clear BK231; clear HB; have HO_7 := n0_; have HO_223001 := n1_; have HO_232001 := n2_; have HO235 := n3_; have BK222 := n4_; have BK231 := n5_; have HB := n6_; clear n0_ n1_ n2_ n3_ n4_ n5_ n6_; (try clear hb); (try clear hb2); (try clear hk); (try clear hi); (try clear ho0); obtain ⟨Ao39, co39, eo39⟩ := Kd.qc HO235.out; subst eo39) | ((with_reducible refine zg (f := 21) rfl ?_); refine zx (some 45) rfl rfl Try.func21 (by kernel_rfl) rfl #[.slice Ao16 t223.length co16, .slice Ao39 t233.length co39] rfl sqM ?_; (with_reducible refine (zY.calls kj7 _ _ t223 _ _ t233 true _ ?side1 ?side2 ?side3 ?side4 A34.out).mono ?_); (case side1 => exact sqC (Kd.zm HO_7.out).2.2); (case side2 => exact (Kd.zm HO_7.out).2.1); (case side3 => exact sqC (Kd.zm HO235.out).2.2); (case side4 => exact (Kd.zm HO235.out).2.1); rintro e w' ⟨rfl, ⟨nd, rfl⟩⟩; refine ⟨_, rfl, ?_⟩) | ((with_reducible refine zg (f := 23) rfl ?_); refine zx (some 49) rfl rfl Try.func23 (by kernel_rfl) rfl #[.slice Ao16 t223.length co16, .int .i64 1] rfl sqM ?_; (with_reducible refine (zL.calls kj7 (fun k_ => some k_ = (.slice Ao16 t223.length co16 : Value).ownBlock) (.slice Ao16 t223.length co16) t223 1 t237 t238 w _ ?side1 ?side2 A36.out).mono ?_); (case side1 => repeat (first | (with_reducible first | exact HB.out | apply qu | apply zD | apply qb | refine qh ?_ GE222.out | refine qh ?_ GE231.out) | exact HB.out)); (case side2 => exact Kd.vV rfl HO_7.out); rintro e w40 ⟨rfl, hy0, hb, hkp⟩; refine ⟨_, rfl, ?_⟩; have n0_ := Aside0.mk (Kd.Zn rfl hy0 (fun k_ e_ => HO_7.out.1 k_ e_)); have n1_ := Aside0.mk (Kd.zN (ok' := fun k_ => some k_ ≠ (.slice Ao16 t223.length co16 : Value).ownBlock ∧ some k_ ≠ (.slice Ao21 t227.length co21 : Value).ownBlock ∧ some k_ ≠ (.slice Ao39 t233.length co39 : Value).ownBlock) (Kd.vW (HO_223001.out) hkp (fun k_ hk_ hs_ => by first | exact hk_.1.1 hs_ | (have e_ : some k_ = _ := hs_; simp only [e_, ne_eq, not_true_eq_false, and_false, false_and] at hk_))) (fun k_ hk_ => by first | exact ⟨hk_.1.1.1, hk_.1.1.2, hk_.1.2⟩ | (refine ⟨?_, ?_, ?_⟩ <;> intro e_ <;> simp only [e_, ne_eq, not_true_eq_false, and_false, false_and] at hk_))); have n2_ := Aside0.mk (Kd.zN (ok' := fun k_ => some k_ ≠ (.slice Ao16 t223.length co16 : Value).ownBlock ∧ some k_ ≠ (.slice Ao14 t218.length co14 : Value).ownBlock ∧ some k_ ≠ (.slice Ao39 t233.length co39 : Value).ownBlock) (Kd.vW (HO_232001.out) hkp (fun k_ hk_ hs_ => by first | exact hk_.1.1 hs_ | (have e_ : some k_ = _ := hs_; simp only [e_, ne_eq, not_true_eq_false, and_false, false_and] at hk_))) (fun k_ hk_ => by first | exact ⟨hk_.1.1.1, hk_.1.1.2, hk_.1.2⟩ | (refine ⟨?_, ?_, ?_⟩ <;> intro e_ <;> simp only [e_, ne_eq, not_true_eq_false, and_false, false_and] at hk_))); have n3_ := Aside0.mk (jS (sqK BK222.out) hkp (fun hs_ => (fun e_ => (Kd.vG HO_7.out BK222.out (by decide)) e_) hs_)); have n4_ := Aside0.mk (jS (sqK BK231.out) hkp (fun hs_ => (fun e_ => (Kd.vG HO_7.out BK231.out (by decide)) e_) hs_)); have n5_ := Aside0.mk (Kd.zN (ok' := fun k_ => some k_ ≠ (.slice Ao16 t223.length co16 : Value).ownBlock ∧ some k_ ≠ (.slice Ao14 t218.length co14 : Value).ownBlock ∧ some k_ ≠ (.slice Ao21 t227.length co21 : Value).ownBlock) (Kd.vW (HO235.out) hkp (fun k_ hk_ hs_ => by first | exact hk_.1.1.2 hs_ | (have e_ : some k_ = _ := hs_; simp only [e_, ne_eq, not_true_eq_false, and_false, false_and] at hk_))) (fun k_ hk_ => by first | exact ⟨hk_.1.1.1.2, hk_.1.1.2, hk_.1.2⟩ | (refine ⟨?_, ?_, ?_⟩ <;> intro e_ <;> simp only [e_, ne_eq, not_true_eq_false, and_false, false_and] at hk_))); have n6_ := Aside0.mk (hb); clear HO_7; clear HO_223001; clear HO_232001; clear BK222; clear BK231; clear HO235; clear HB; have HO_7 := n0_; have HO_223001 := n1_; have HO_232001 := n2_; have BK222 := n3_; have BK231 := n4_; have HO235 := n5_; have HB := n6_; clear n0_ n1_ n2_ n3_ n4_ n5_ n6_; (try clear hb); (try clear hkp); (try clear hy0)))
      (try simp only [Act.put, List.setIfInBounds_toArray, List.set_cons_zero, List.set_cons_succ])
      go_cut [62] (fun v62 wc => ∃ (kq : Nat) (x62_36 : Bool), v62 = .bool x62_36 ∧ Aside0 (zc.j1 kq a0 l1 t221 x62_36 t217 t218 t226 t227 = some r) ∧ Aside0 (kq ≤ kj7) ∧ Aside0 (Kd.R (Kd.int .i64) 3 wc w.heap.size (fun k_ => some k_ ≠ ((.slice Ao21 t227.length co21) : Value).ownBlock) (.slice Ao14 t218.length co14) t218) ∧ Aside0 (Kd.R (Kd.int .i64) 3 wc w.heap.size (fun k_ => some k_ ≠ ((.slice Ao14 t218.length co14) : Value).ownBlock) (.slice Ao21 t227.length co21) t227) ∧ Aside0 (wc.heap[gb222]? = some (.cells #[.int .i64 t217, (.slice Ao14 t218.length co14)] 27 (0, 0))) ∧ Aside0 (wc.heap[gb231]? = some (.cells #[.int .i64 t226, (.slice Ao21 t227.length co21)] 27 (0, 0))) ∧ Aside0 (Below w.heap.size w wc))
      case first =>
       have H := HC37.out
       clear HC37
       by_cases c41 : t237 < 0
       ·rw [if_pos c41] at H
        have c41b0 : decide (t237 < 0) = true := decide_eq_true c41
        clear c41
        (first | rw [c41b0] | (simp only [zl, zo]; rw [c41b0]) | skip)
        have H' := Aside0.mk H
        clear H
        go_wp2
        go_meet
        case rel => exact ⟨_, (true), (sqD), H', ⟨by have := HJ7.out; first | omega | exact Nat.le_refl _⟩, ⟨by refine sqR ?_; exact Kd.zN HO_223001.out (fun _ hk => hk.2.1)⟩, ⟨by refine sqR ?_; exact Kd.zN HO_232001.out (fun _ hk => hk.2.1)⟩, ⟨sqK BK222.out⟩, ⟨sqK BK231.out⟩, ⟨sqB⟩⟩
       ·rw [if_neg c41] at H
        have c41b0 : decide (t237 < 0) = false := decide_eq_false c41
        clear c41
        (first | rw [c41b0] | (simp only [zl, zo]; rw [c41b0]) | skip)
        replace H := Option.bind_eq_some_iff.mp H
        obtain ⟨t239, A420, H⟩ := H
        replace H : (if t239 = true then (zc.j1 kj7 a0 l1 t221 (t230 != t221) t217 t218 t226 t227) else (zc.j1 kj7 a0 l1 t221 true t217 t218 t226 t227)) = some r := H
        have A42 := Aside0.mk A420
        clear A420
        by_cases c43 : t239 = true
        ·subst c43
         have H1 : (zc.j1 kj7 a0 l1 t221 (t230 != t221) t217 t218 t226 t227) = some r := by rw [if_pos rfl] at H; exact H
         clear H
         have H := H1
         clear H1
         have H' := Aside0.mk H
         clear H
         have hnb44 := NB231_222.out
         have hnc44 := NB222_231.out
         have hcz45_0 : w40.cell? ⟨gb231, 0, none⟩ = some (.int .i64 t226) := (za BK231.out 0).trans rfl
         have hcz45_1 : w40.cell? ⟨gb231, 1, none⟩ = some (.slice Ao21 t227.length co21) := (za BK231.out 1).trans rfl
         have hfz45_0 := zb BK231.out 0; have hfz45_1 := zb BK231.out 1
         have hcz46_0 : w40.cell? ⟨gb222, 0, none⟩ = some (.int .i64 t217) := (za BK222.out 0).trans rfl
         have hcz46_1 : w40.cell? ⟨gb222, 1, none⟩ = some (.slice Ao14 t218.length co14) := (za BK222.out 1).trans rfl
         have hfz46_0 := zb BK222.out 0; have hfz46_1 := zb BK222.out 1
         go_wp2_with (first | (go_at_call 16; (try simp only [zl, zo]); (with_reducible refine (zy.calls kj7 t226 _ _ t227 t217 _ _ t218 true _ ?side1 ?side2 ?side3 ?side4 A42.out).mono ?_); (case side1 => exact sqC (Kd.zm HO_232001.out).2.2); (case side2 => exact (Kd.zm HO_232001.out).2.1); (case side3 => exact sqC (Kd.zm HO_223001.out).2.2); (case side4 => exact (Kd.zm HO_223001.out).2.1); rintro e w47 ⟨rfl, hb⟩; have n0_ := Aside0.mk (Kd.zJ (sqR HO_7.out) hb); have n1_ := Aside0.mk (Kd.zJ (sqR HO_223001.out) hb); have n2_ := Aside0.mk (Kd.zJ (sqR HO_232001.out) hb); have n3_ := Aside0.mk (Kd.zJ (sqR HO235.out) hb); have n4_ := Aside0.mk (zd (g := gb222) (o := .cells #[.int .i64 t217, .slice Ao14 t218.length co14] 27 (0, 0)) (sqK BK222.out) hb); have n5_ := Aside0.mk (zd (g := gb231) (o := .cells #[.int .i64 t226, .slice Ao21 t227.length co21] 27 (0, 0)) (sqK BK231.out) hb); have n6_ := Aside0.mk (ze sqB hb); clear HO_7; clear HO_223001; clear HO_232001; clear HO235; clear BK222; clear BK231; clear HB; have HO_7 := n0_; have HO_223001 := n1_; have HO_232001 := n2_; have HO235 := n3_; have BK222 := n4_; have BK231 := n5_; have HB := n6_; clear n0_ n1_ n2_ n3_ n4_ n5_ n6_; (try clear hb); (try clear hb2); (try clear hk); (try clear hi)))
         go_meet
         case rel => exact ⟨_, ((t230 != t221)), (sqD), H', ⟨by have := HJ7.out; first | omega | exact Nat.le_refl _⟩, ⟨by refine sqR ?_; exact Kd.zN HO_223001.out (fun _ hk => hk.2.1)⟩, ⟨by refine sqR ?_; exact Kd.zN HO_232001.out (fun _ hk => hk.2.1)⟩, ⟨sqK BK222.out⟩, ⟨sqK BK231.out⟩, ⟨sqB⟩⟩
        ·replace c43 := Bool.eq_false_iff.mpr c43
         subst c43
         have H1 : (zc.j1 kj7 a0 l1 t221 true t217 t218 t226 t227) = some r := by rw [if_neg (show ¬ (false = true) by decide)] at H; exact H
         clear H
         have H := H1
         clear H1
         have H' := Aside0.mk H
         clear H
         have hnb48 := NB231_222.out
         have hnc48 := NB222_231.out
         have hcz49_0 : w40.cell? ⟨gb231, 0, none⟩ = some (.int .i64 t226) := (za BK231.out 0).trans rfl
         have hcz49_1 : w40.cell? ⟨gb231, 1, none⟩ = some (.slice Ao21 t227.length co21) := (za BK231.out 1).trans rfl
         have hfz49_0 := zb BK231.out 0; have hfz49_1 := zb BK231.out 1
         have hcz50_0 : w40.cell? ⟨gb222, 0, none⟩ = some (.int .i64 t217) := (za BK222.out 0).trans rfl
         have hcz50_1 : w40.cell? ⟨gb222, 1, none⟩ = some (.slice Ao14 t218.length co14) := (za BK222.out 1).trans rfl
         have hfz50_0 := zb BK222.out 0; have hfz50_1 := zb BK222.out 1
         go_wp2_with (first | (go_at_call 16; (try simp only [zl, zo]); (with_reducible refine (zy.calls kj7 t226 _ _ t227 t217 _ _ t218 false _ ?side1 ?side2 ?side3 ?side4 A42.out).mono ?_); (case side1 => exact sqC (Kd.zm HO_232001.out).2.2); (case side2 => exact (Kd.zm HO_232001.out).2.1); (case side3 => exact sqC (Kd.zm HO_223001.out).2.2); (case side4 => exact (Kd.zm HO_223001.out).2.1); rintro e w51 ⟨rfl, hb⟩; have n0_ := Aside0.mk (Kd.zJ (sqR HO_7.out) hb); have n1_ := Aside0.mk (Kd.zJ (sqR HO_223001.out) hb); have n2_ := Aside0.mk (Kd.zJ (sqR HO_232001.out) hb); have n3_ := Aside0.mk (Kd.zJ (sqR HO235.out) hb); have n4_ := Aside0.mk (zd (g := gb222) (o := .cells #[.int .i64 t217, .slice Ao14 t218.length co14] 27 (0, 0)) (sqK BK222.out) hb); have n5_ := Aside0.mk (zd (g := gb231) (o := .cells #[.int .i64 t226, .slice Ao21 t227.length co21] 27 (0, 0)) (sqK BK231.out) hb); have n6_ := Aside0.mk (ze sqB hb); clear HO_7; clear HO_223001; clear HO_232001; clear HO235; clear BK222; clear BK231; clear HB; have HO_7 := n0_; have HO_223001 := n1_; have HO_232001 := n2_; have HO235 := n3_; have BK222 := n4_; have BK231 := n5_; have HB := n6_; clear n0_ n1_ n2_ n3_ n4_ n5_ n6_; (try clear hb); (try clear hb2); (try clear hk); (try clear hi)))
         go_meet
         case rel => exact ⟨_, (true), (sqD), H', ⟨by have := HJ7.out; first | omega | exact Nat.le_refl _⟩, ⟨by refine sqR ?_; exact Kd.zN HO_223001.out (fun _ hk => hk.2.1)⟩, ⟨by refine sqR ?_; exact Kd.zN HO_232001.out (fun _ hk => hk.2.1)⟩, ⟨sqK BK222.out⟩, ⟨sqK BK231.out⟩, ⟨sqB⟩⟩
      case rest =>
       clear HC37
       try clear c1
       try clear c2
       try clear p2
       try clear c3
       try clear c3b0
       try clear c3b1
       try clear c4
       try clear c8
       try clear c16
       try clear c19
       try clear c21
       try clear c23
       try clear c24
       try clear c28
       try clear c29
       try clear c30
       try clear c31
       try clear c32
       try clear c35
       try clear c41
       try clear c41b0
       try clear c43
       try clear c44
       try clear c48
       try clear hcz13_0
       try clear hcz13_1
       try clear hcz20_0
       try clear hcz20_1
       try clear hcz25_0
       try clear hcz25_1
       try clear hcz26_0
       try clear hcz26_1
       try clear hcz29_0
       try clear hcz29_1
       try clear hcz30_0
       try clear hcz30_1
       try clear hcz45_0
       try clear hcz45_1
       try clear hcz46_0
       try clear hcz46_1
       try clear hcz49_0
       try clear hcz49_1
       try clear hcz50_0
       try clear hcz50_1
       try clear hfz13_0
       try clear hfz13_1
       try clear hfz20_0
       try clear hfz20_1
       try clear hfz25_0
       try clear hfz25_1
       try clear hfz26_0
       try clear hfz26_1
       try clear hfz29_0
       try clear hfz29_1
       try clear hfz30_0
       try clear hfz30_1
       try clear hfz45_0
       try clear hfz45_1
       try clear hfz46_0
       try clear hfz46_1
       try clear hfz49_0
       try clear hfz49_1
       try clear hfz50_0
       try clear hfz50_1
       try clear p2
       obtain ⟨kq, x62_36, rfl, HA, HJ36, HO_223001, HO_232001, BK222, BK231, HB⟩ := hcut
       cases kq with
       | zero => exact absurd HA.out (by simp [zc.j1])
       | succ kj36 =>
        have H := HA.out
        clear HA
        simp only [zc.j1] at H
        by_cases c52 : x62_36 = true
        ·subst c52
         have H1 : (none) = some r := by rw [if_pos rfl] at H; exact H
         clear H
         have H := H1
         clear H1
         exact absurd H (by simp)
        ·replace c52 := Bool.eq_false_iff.mpr c52
         subst c52
         have H1 : ((qs.f kj36 t226 t227 1).bind fun bt240 => ((qd.f kj36 t226 bt240.2 1).bind fun t242 => (if t242 < 0 then (none) else (if t242 = bt240.1 then ((zI.f kj36 l1).bind fun t243 => ((zf.f kj36 a0 t243).bind fun bt246 => ((zy.f kj36 bt246.1 bt246.2.1 t217 t218).bind fun t252 => (if t252 = true then (zc.j2 kj36 bt240.1 (bt246.2.2 != t221) t226 bt240.2) else (zc.j2 kj36 bt240.1 true t226 bt240.2))))) else (none))))) = some r := by rw [if_neg (show ¬ (false = true) by decide)] at H; exact H
         clear H
         have H := H1
         clear H1
         replace H := Option.bind_eq_some_iff.mp H
         obtain ⟨⟨t240, t241⟩, A530, H⟩ := H
         replace H : ((qd.f kj36 t226 t241 1).bind fun t242 => (if t242 < 0 then (none) else (if t242 = t240 then ((zI.f kj36 l1).bind fun t243 => ((zf.f kj36 a0 t243).bind fun bt246 => ((zy.f kj36 bt246.1 bt246.2.1 t217 t218).bind fun t252 => (if t252 = true then (zc.j2 kj36 t240 (bt246.2.2 != t221) t226 t241) else (zc.j2 kj36 t240 true t226 t241))))) else (none)))) = some r := H
         have A53 := Aside0.mk A530
         clear A530
         replace H := Option.bind_eq_some_iff.mp H
         obtain ⟨t242, A540, H⟩ := H
         replace H : (if t242 < 0 then (none) else (if t242 = t240 then ((zI.f kj36 l1).bind fun t243 => ((zf.f kj36 a0 t243).bind fun bt246 => ((zy.f kj36 bt246.1 bt246.2.1 t217 t218).bind fun t252 => (if t252 = true then (zc.j2 kj36 t240 (bt246.2.2 != t221) t226 t241) else (zc.j2 kj36 t240 true t226 t241))))) else (none))) = some r := H
         have A54 := Aside0.mk A540
         clear A540
         by_cases c55 : t242 < 0
         ·rw [if_pos c55] at H
          exact absurd H (by simp)
         ·rw [if_neg c55] at H
          have c55b0 : decide (t242 < 0) = false := decide_eq_false c55
          clear c55
          by_cases c56 : t242 = t240
          ·rw [if_pos c56] at H
           have c56b0 : (t242 == t240) = true := beq_iff_eq.mpr c56
           have c56b1 : (t242 != t240) = false := bne_eq_false_iff_eq.mpr c56
           clear c56
           replace H := Option.bind_eq_some_iff.mp H
           obtain ⟨t243, A570, H⟩ := H
           replace H : ((zf.f kj36 a0 t243).bind fun bt246 => ((zy.f kj36 bt246.1 bt246.2.1 t217 t218).bind fun t252 => (if t252 = true then (zc.j2 kj36 t240 (bt246.2.2 != t221) t226 t241) else (zc.j2 kj36 t240 true t226 t241)))) = some r := H
           have A57 := Aside0.mk A570
           clear A570
           replace H := Option.bind_eq_some_iff.mp H
           obtain ⟨⟨t246, t247, t250⟩, A580, H⟩ := H
           replace H : ((zy.f kj36 t246 t247 t217 t218).bind fun t252 => (if t252 = true then (zc.j2 kj36 t240 (t250 != t221) t226 t241) else (zc.j2 kj36 t240 true t226 t241))) = some r := H
           have A58 := Aside0.mk A580
           clear A580
           have HC59 := Aside0.mk H
           clear H
           have hnb60 := NB231_222.out
           have hnc60 := NB222_231.out
           have hcz61_0 : wc.cell? ⟨gb231, 0, none⟩ = some (.int .i64 t226) := (za BK231.out 0).trans rfl
           have hcz61_1 : wc.cell? ⟨gb231, 1, none⟩ = some (.slice Ao21 t227.length co21) := (za BK231.out 1).trans rfl
           have hfz61_0 := zb BK231.out 0; have hfz61_1 := zb BK231.out 1
           go_upto_region 23 with (first | ((with_reducible refine zg (f := 22) rfl ?_); refine zx (some 65) rfl rfl Try.func22 (by kernel_rfl) rfl #[.agg #[.int .i64 t226, .slice Ao21 t227.length co21], .int .i64 1] rfl sqM ?_; (with_reducible refine (qs.calls kj36 t226 (fun k_ => some k_ = (.slice Ao21 t227.length co21 : Value).ownBlock) (.slice Ao21 t227.length co21) t227 1 t240 t241 w _ ?side1 ?side2 A53.out).mono ?_); (case side1 => repeat (first | (with_reducible first | exact HB.out | apply qu | apply zD | apply qb | refine qh ?_ GE222.out | refine qh ?_ GE231.out) | exact HB.out)); (case side2 => exact Kd.vV rfl HO_232001.out); rintro e w62 ⟨rfl, hy0, hb, hkp⟩; refine ⟨_, rfl, ?_⟩; have n0_ := Aside0.mk (Kd.zN (ok' := fun k_ => some k_ ≠ (.slice Ao21 t227.length co21 : Value).ownBlock) (Kd.vW (HO_223001.out) hkp (fun k_ hk_ hs_ => by first | exact hk_ hs_ | (have e_ : some k_ = _ := hs_; simp only [e_, ne_eq, not_true_eq_false, and_false, false_and] at hk_))) (fun k_ hk_ => hk_.1)); have n1_ := Aside0.mk (Kd.Zn rfl hy0 (fun k_ e_ => HO_232001.out.1 k_ e_)); have n2_ := Aside0.mk (jS (sqK BK222.out) hkp (fun hs_ => (fun e_ => (Kd.vG HO_232001.out BK222.out (by decide)) e_) hs_)); have n3_ := Aside0.mk (jS (sqK BK231.out) hkp (fun hs_ => (fun e_ => (Kd.vG HO_232001.out BK231.out (by decide)) e_) hs_)); have n4_ := Aside0.mk (hb); clear HO_223001; clear HO_232001; clear BK222; clear BK231; clear HB; have HO_223001 := n0_; have HO_232001 := n1_; have BK222 := n2_; have BK231 := n3_; have HB := n4_; clear n0_ n1_ n2_ n3_ n4_; (try clear hb); (try clear hkp); (try clear hy0); have hcz63_0 : w62.cell? ⟨gb231, 0, none⟩ = some (.int .i64 t226) := (za BK231.out 0).trans rfl; have hcz63_1 : w62.cell? ⟨gb231, 1, none⟩ = some (.slice Ao21 t227.length co21) := (za BK231.out 1).trans rfl; have hfz63_0 := zb BK231.out 0; have hfz63_1 := zb BK231.out 1) | ((with_reducible refine zg (f := 32) rfl ?_); refine zx (some 68) rfl rfl Try.func32 (by kernel_rfl) rfl #[.agg #[.int .i64 t226, .slice Ao21 t241.length co21], .int .i64 1] rfl (by (try simp only [List.map_toArray, List.map_cons, List.map_nil]); first | done | (rw [show t241.length = t227.length from (Kd.zm HO_232001.out).1.symm] <;> rfl) | rfl | (simp only [List.length_drop, List.length_take]; rfl)) ?_; (with_reducible refine (qd.calls kj36 t226 _ _ t241 1 t242 _ ?side1 ?side2 A54.out).mono ?_); (case side1 => exact sqC (Kd.zm HO_232001.out).2.2); (case side2 => rw [show t241.length = t227.length from (Kd.zm HO_232001.out).1.symm]; exact (Kd.zm HO_232001.out).2.1); rintro e w64 ⟨rfl, hb⟩; refine ⟨_, rfl, ?_⟩; have n0_ := Aside0.mk (Kd.zJ (sqR HO_223001.out) hb); have n1_ := Aside0.mk (Kd.zJ (sqR HO_232001.out) hb); have n2_ := Aside0.mk (zd (g := gb222) (o := .cells #[.int .i64 t217, .slice Ao14 t218.length co14] 27 (0, 0)) (sqK BK222.out) hb); have n3_ := Aside0.mk (zd (g := gb231) (o := .cells #[.int .i64 t226, .slice Ao21 t227.length co21] 27 (0, 0)) (sqK BK231.out) hb); have n4_ := Aside0.mk (ze sqB hb); clear HO_223001; clear HO_232001; clear BK222; clear BK231; clear HB; have HO_223001 := n0_; have HO_232001 := n1_; have BK222 := n2_; have BK231 := n3_; have HB := n4_; clear n0_ n1_ n2_ n3_ n4_; (try clear hb); (try clear hb2); (try clear hk); (try clear hi)) | ((with_reducible refine zg (f := 30) rfl ?_); refine zx (some 77) rfl rfl Try.func30 (by kernel_rfl) rfl #[.slice A1 l1.length c1] rfl sqM ?_; (with_reducible refine (zI.calls kj36 _ _ l1 t243 _ ?side1 ?side2 A57.out).mono ?_); (case side1 => exact sqC (Kd.zH HR1.out HB.out)); (case side2 => exact HC1.out); rintro e w65 ⟨v244, rfl, ho0, hb⟩; refine ⟨_, rfl, ?_⟩; have n0_ := Aside0.mk (Kd.qi (sqR HO_223001.out) (Kd.qB ho0) hb); have n1_ := Aside0.mk (Kd.qi (sqR HO_232001.out) (Kd.qB ho0) hb); have n2_ := Aside0.mk (Kd.qf (Kd.qC (Kd.qC ho0 (Kd.ju (sqR HO_223001.out))) (Kd.ju (sqR HO_232001.out))) (zt sqB)); have n3_ := Aside0.mk (zd (g := gb222) (o := .cells #[.int .i64 t217, .slice Ao14 t218.length co14] 27 (0, 0)) (sqK BK222.out) hb); have n4_ := Aside0.mk (zd (g := gb231) (o := .cells #[.int .i64 t226, .slice Ao21 t227.length co21] 27 (0, 0)) (sqK BK231.out) hb); have n5_ := Aside0.mk (ze sqB hb); clear HO_223001; clear HO_232001; clear BK222; clear BK231; clear HB; have HO_223001 := n0_; have HO_232001 := n1_; have HO245 := n2_; have BK222 := n3_; have BK231 := n4_; have HB := n5_; clear n0_ n1_ n2_ n3_ n4_ n5_; (try clear hb); (try clear hb2); (try clear hk); (try clear hi); (try clear ho0); obtain ⟨Ao66, co66, eo66⟩ := Kd.qc HO245.out; subst eo66) | ((with_reducible refine zg (f := 31) rfl ?_); refine zx (some 78) rfl rfl Try.func31 (by kernel_rfl) rfl #[.int .i64 a0, .slice Ao66 t243.length co66] rfl sqM ?_; (with_reducible refine (zf.calls kj36 a0 _ _ t243 t246 t247 t250 _ ?side1 ?side2 A58.out).mono ?_); (case side1 => exact sqC (Kd.zm HO245.out).2.2); (case side2 => exact (Kd.zm HO245.out).2.1); rintro e w67 ⟨v248, rfl, ho0, hb⟩; refine ⟨_, rfl, ?_⟩; have n0_ := Aside0.mk (Kd.qi (sqR HO_223001.out) (Kd.qB ho0) hb); have n1_ := Aside0.mk (Kd.qi (sqR HO_232001.out) (Kd.qB ho0) hb); have n2_ := Aside0.mk (Kd.qi (sqR HO245.out) (Kd.qB ho0) hb); have n3_ := Aside0.mk (Kd.qf (Kd.qC (Kd.qC (Kd.qC ho0 (Kd.ju (sqR HO_223001.out))) (Kd.ju (sqR HO_232001.out))) (Kd.ju (sqR HO245.out))) (zt sqB)); have n4_ := Aside0.mk (zd (g := gb222) (o := .cells #[.int .i64 t217, .slice Ao14 t218.length co14] 27 (0, 0)) (sqK BK222.out) hb); have n5_ := Aside0.mk (zd (g := gb231) (o := .cells #[.int .i64 t226, .slice Ao21 t227.length co21] 27 (0, 0)) (sqK BK231.out) hb); have n6_ := Aside0.mk (ze sqB hb); clear HO_223001; clear HO_232001; clear HO245; clear BK222; clear BK231; clear HB; have HO_223001 := n0_; have HO_232001 := n1_; have HO245 := n2_; have HO249 := n3_; have BK222 := n4_; have BK231 := n5_; have HB := n6_; clear n0_ n1_ n2_ n3_ n4_ n5_ n6_; (try clear hb); (try clear hb2); (try clear hk); (try clear hi); (try clear ho0)) | ((with_reducible refine zr (N := 13) rfl ?_); refine zq ?hg (N := 13) ?hd (cs := #[.int .i64 0, .slice none 0 0]) (t := 27) ?hr ?_; (case hd => rfl); (case hg => rfl); (case hr => exact sqG); intro gb251 hg w68 hbox hb; have n0_ := Aside0.mk (Kd.zJ (sqR HO_223001.out) hb); have n1_ := Aside0.mk (Kd.zJ (sqR HO_232001.out) hb); have n2_ := Aside0.mk (Kd.zJ (sqR HO245.out) hb); have n3_ := Aside0.mk (Kd.zJ (sqR HO249.out) hb); have n4_ := Aside0.mk (zd (g := gb222) (o := .cells #[.int .i64 t217, .slice Ao14 t218.length co14] 27 (0, 0)) (sqK BK222.out) hb); have n5_ := Aside0.mk (zd (g := gb231) (o := .cells #[.int .i64 t226, .slice Ao21 t227.length co21] 27 (0, 0)) (sqK BK231.out) hb); have n6_ := Aside0.mk (ze sqB hb); have n7_ := Aside0.mk (hbox); have n8_ := Aside0.mk ((sqS hg : w.heap.size ≤ gb251)); have n9_ := Aside0.mk ((sqS hg : w.heap.size ≤ gb251)); have n10_ := Aside0.mk ((by rw [hg]; exact Nat.ne_of_lt (zR (g := gb222) (o := .cells #[.int .i64 t217, .slice Ao14 t218.length co14] 27 (0, 0)) (sqK BK222.out)) : gb222 ≠ gb251)); have n11_ := Aside0.mk ((by rw [hg]; exact Nat.ne_of_gt (zR (g := gb222) (o := .cells #[.int .i64 t217, .slice Ao14 t218.length co14] 27 (0, 0)) (sqK BK222.out)) : gb251 ≠ gb222)); have n12_ := Aside0.mk ((by rw [hg]; exact Nat.ne_of_lt (zR (g := gb231) (o := .cells #[.int .i64 t226, .slice Ao21 t227.length co21] 27 (0, 0)) (sqK BK231.out)) : gb231 ≠ gb251)); have n13_ := Aside0.mk ((by rw [hg]; exact Nat.ne_of_gt (zR (g := gb231) (o := .cells #[.int .i64 t226, .slice Ao21 t227.length co21] 27 (0, 0)) (sqK BK231.out)) : gb251 ≠ gb231)); clear HO_223001; clear HO_232001; clear HO245; clear HO249; clear BK222; clear BK231; clear HB; have HO_223001 := n0_; have HO_232001 := n1_; have HO245 := n2_; have HO249 := n3_; have BK222 := n4_; have BK231 := n5_; have HB := n6_; have BK251 := n7_; have GW251 := n8_; have GE251 := n9_; have NB222_251 := n10_; have NB251_222 := n11_; have NB231_251 := n12_; have NB251_231 := n13_; clear n0_ n1_ n2_ n3_ n4_ n5_ n6_ n7_ n8_ n9_ n10_ n11_ n12_ n13_; clear hb hbox hg; have hnb69 := NB251_222.out; have hnc69 := NB222_251.out; have hnb70 := NB251_231.out; have hnc70 := NB231_251.out; have hcz71_0 : w68.cell? ⟨gb251, 0, none⟩ = some (.int .i64 0) := (za BK251.out 0).trans rfl; have hcz71_1 : w68.cell? ⟨gb251, 1, none⟩ = some (.slice none 0 0) := (za BK251.out 1).trans rfl; have hfz71_0 := zb BK251.out 0; have hfz71_1 := zb BK251.out 1; obtain ⟨Ao72, co72, eo72⟩ := Kd.qc HO249.out; subst eo72))
           (try simp only [Act.put, List.setIfInBounds_toArray, List.set_cons_zero, List.set_cons_succ])
           go_cut [89] (fun v89 wc => ∃ (kq : Nat) (x89_58 : Bool), v89 = .bool x89_58 ∧ Aside0 (zc.j2 kq t240 x89_58 t226 t241 = some r) ∧ Aside0 (kq ≤ kj36) ∧ Aside0 (Kd.R (Kd.int .i64) 3 wc w.heap.size (fun k_ => some k_ ≠ ((.slice Ao21 t227.length co21) : Value).ownBlock ∧ some k_ ≠ ((.slice Ao72 t247.length co72) : Value).ownBlock) (.slice Ao14 t218.length co14) t218) ∧ Aside0 (Kd.R (Kd.int .i64) 3 wc w.heap.size (fun k_ => some k_ ≠ ((.slice Ao14 t218.length co14) : Value).ownBlock ∧ some k_ ≠ ((.slice Ao72 t247.length co72) : Value).ownBlock) (.slice Ao21 t227.length co21) t241) ∧ Aside0 (Kd.R (Kd.int .i64) 3 wc w.heap.size (fun k_ => some k_ ≠ ((.slice Ao14 t218.length co14) : Value).ownBlock ∧ some k_ ≠ ((.slice Ao21 t227.length co21) : Value).ownBlock) (.slice Ao72 t247.length co72) t247) ∧ Aside0 (wc.heap[gb222]? = some (.cells #[.int .i64 t217, (.slice Ao14 t218.length co14)] 27 (0, 0))) ∧ Aside0 (wc.heap[gb231]? = some (.cells #[.int .i64 t226, (.slice Ao21 t227.length co21)] 27 (0, 0))) ∧ Aside0 (wc.heap[gb251]? = some (.cells #[.int .i64 t246, (.slice Ao72 t247.length co72)] 27 (0, 0))) ∧ Aside0 (Below w.heap.size w wc))
           case first =>
            have H := HC59.out
            clear HC59
            replace H := Option.bind_eq_some_iff.mp H
            obtain ⟨t252, A730, H⟩ := H
            replace H : (if t252 = true then (zc.j2 kj36 t240 (t250 != t221) t226 t241) else (zc.j2 kj36 t240 true t226 t241)) = some r := H
            have A73 := Aside0.mk A730
            clear A730
            by_cases c74 : t252 = true
            ·subst c74
             have H1 : (zc.j2 kj36 t240 (t250 != t221) t226 t241) = some r := by rw [if_pos rfl] at H; exact H
             clear H
             have H := H1
             clear H1
             have H' := Aside0.mk H
             clear H
             have hnb75 := NB251_222.out
             have hnc75 := NB222_251.out
             have hnb76 := NB251_231.out
             have hnc76 := NB231_251.out
             have hcz77_0 : w68.cell? ⟨gb251, 0, none⟩ = some (.int .i64 0) := (za BK251.out 0).trans rfl
             have hcz77_1 : w68.cell? ⟨gb251, 1, none⟩ = some (.slice none 0 0) := (za BK251.out 1).trans rfl
             have hfz77_0 := zb BK251.out 0; have hfz77_1 := zb BK251.out 1
             have hnb78 := NB222_231.out
             have hnc78 := NB231_222.out
             have hcz79_0 : w68.cell? ⟨gb222, 0, none⟩ = some (.int .i64 t217) := (za BK222.out 0).trans rfl
             have hcz79_1 : w68.cell? ⟨gb222, 1, none⟩ = some (.slice Ao14 t218.length co14) := (za BK222.out 1).trans rfl
             have hfz79_0 := zb BK222.out 0; have hfz79_1 := zb BK222.out 1
             go_wp2_with (first | ((with_reducible refine zg (f := 16) rfl ?_); refine zx (some 83) rfl rfl Try.func16 (by kernel_rfl) rfl #[.agg #[.int .i64 t246, .slice Ao72 t247.length co72], .agg #[.int .i64 t217, .slice Ao14 t218.length co14]] rfl sqM ?_; (with_reducible refine (zy.calls kj36 t246 _ _ t247 t217 _ _ t218 true _ ?side1 ?side2 ?side3 ?side4 A73.out).mono ?_); (case side1 => refine (Kd.zm (e := 3) (base := w.heap.size) (ok := fun k_ => (((True ∧ some k_ ≠ (.slice Ao14 t218.length co14 : Value).ownBlock) ∧ some k_ ≠ (.slice Ao21 t227.length co21 : Value).ownBlock) ∧ some k_ ≠ (.slice Ao66 t243.length co66 : Value).ownBlock)) (n := t247.length) (c := co72) ?_).2.2; exact (by refine sqR ?_; exact (Kd.zN (Kd.zW (p := ⟨gb251, 1, none⟩) (Kd.zW (p := ⟨gb251, 0, none⟩) (Kd.qa HO249.out BK251.out (by decide)) (fun _ hk => hk.2) (.int .i64 t246)) (fun _ hk => hk.2) (.slice Ao72 t247.length co72)) (fun _ h_ => h_.1)))); (case side2 => exact (Kd.zm HO249.out).2.1); (case side3 => refine (Kd.zm (e := 3) (base := w.heap.size) (ok := fun k_ => ((some k_ ≠ (.slice Ao21 t227.length co21 : Value).ownBlock ∧ some k_ ≠ (.slice Ao66 t243.length co66 : Value).ownBlock) ∧ some k_ ≠ (.slice Ao72 t247.length co72 : Value).ownBlock)) (n := t218.length) (c := co14) ?_).2.2; exact (by refine sqR ?_; exact (Kd.zN (Kd.zW (p := ⟨gb251, 1, none⟩) (Kd.zW (p := ⟨gb251, 0, none⟩) (Kd.qa HO_223001.out BK251.out (by decide)) (fun _ hk => hk.2) (.int .i64 t246)) (fun _ hk => hk.2) (.slice Ao72 t247.length co72)) (fun _ h_ => h_.1)))); (case side4 => exact (Kd.zm HO_223001.out).2.1); rintro e w80 ⟨rfl, hb⟩; refine ⟨_, rfl, ?_⟩; have n0_ := Aside0.mk (Kd.zJ (by refine sqR ?_; exact (Kd.zN (Kd.zW (p := ⟨gb251, 1, none⟩) (Kd.zW (p := ⟨gb251, 0, none⟩) (Kd.qa HO_223001.out BK251.out (by decide)) (fun _ hk => hk.2) (.int .i64 t246)) (fun _ hk => hk.2) (.slice Ao72 t247.length co72)) (fun _ h_ => h_.1))) hb); have n1_ := Aside0.mk (Kd.zJ (by refine sqR ?_; exact (Kd.zN (Kd.zW (p := ⟨gb251, 1, none⟩) (Kd.zW (p := ⟨gb251, 0, none⟩) (Kd.qa HO_232001.out BK251.out (by decide)) (fun _ hk => hk.2) (.int .i64 t246)) (fun _ hk => hk.2) (.slice Ao72 t247.length co72)) (fun _ h_ => h_.1))) hb); have n2_ := Aside0.mk (Kd.zJ (by refine sqR ?_; exact (Kd.zN (Kd.zW (p := ⟨gb251, 1, none⟩) (Kd.zW (p := ⟨gb251, 0, none⟩) (Kd.qa HO245.out BK251.out (by decide)) (fun _ hk => hk.2) (.int .i64 t246)) (fun _ hk => hk.2) (.slice Ao72 t247.length co72)) (fun _ h_ => h_.1))) hb); have n3_ := Aside0.mk (Kd.zJ (by refine sqR ?_; exact (Kd.zN (Kd.zW (p := ⟨gb251, 1, none⟩) (Kd.zW (p := ⟨gb251, 0, none⟩) (Kd.qa HO249.out BK251.out (by decide)) (fun _ hk => hk.2) (.int .i64 t246)) (fun _ hk => hk.2) (.slice Ao72 t247.length co72)) (fun _ h_ => h_.1))) hb); have n4_ := Aside0.mk (zd (g := gb222) (o := .cells #[.int .i64 t217, .slice Ao14 t218.length co14] 27 (0, 0)) (by refine sqK ?_; refine qn ?_ NB222_251.out _; refine sqK ?_; refine qn ?_ NB222_251.out _; refine sqK ?_; exact BK222.out) hb); have n5_ := Aside0.mk (zd (g := gb231) (o := .cells #[.int .i64 t226, .slice Ao21 t227.length co21] 27 (0, 0)) (by refine sqK ?_; refine qn ?_ NB231_251.out _; refine sqK ?_; refine qn ?_ NB231_251.out _; refine sqK ?_; exact BK231.out) hb); have n6_ := Aside0.mk (zd (g := gb251) (o := .cells #[.int .i64 t246, .slice Ao72 t247.length co72] 27 (0, 0)) (by refine sqK ?_; refine zM (cs := #[.int .i64 t246, .slice none 0 0]) ?_ 1 _ rfl; refine sqK ?_; refine zM (cs := #[.int .i64 0, .slice none 0 0]) ?_ 0 _ rfl; refine sqK ?_; exact BK251.out) hb); have n7_ := Aside0.mk (ze sqB hb); clear HO_223001; clear HO_232001; clear HO245; clear HO249; clear BK222; clear BK231; clear BK251; clear HB; have HO_223001 := n0_; have HO_232001 := n1_; have HO245 := n2_; have HO249 := n3_; have BK222 := n4_; have BK231 := n5_; have BK251 := n6_; have HB := n7_; clear n0_ n1_ n2_ n3_ n4_ n5_ n6_ n7_; (try clear hb); (try clear hb2); (try clear hk); (try clear hi)))
             go_meet
             case rel => exact ⟨_, ((t250 != t221)), (sqD), H', ⟨by have := HJ7.out; have := HJ36.out; first | omega | exact Nat.le_refl _⟩, ⟨by refine sqR ?_; exact Kd.zN HO_223001.out (fun _ hk => by first | exact ⟨hk.1.1, hk.2⟩ | (refine ⟨?_, ?_⟩ <;> intro e_ <;> simp only [e_, ne_eq, not_true_eq_false, and_false, false_and] at hk))⟩, ⟨by refine sqR ?_; exact Kd.zN HO_232001.out (fun _ hk => by first | exact ⟨hk.1.1, hk.2⟩ | (refine ⟨?_, ?_⟩ <;> intro e_ <;> simp only [e_, ne_eq, not_true_eq_false, and_false, false_and] at hk))⟩, ⟨by refine sqR ?_; exact Kd.zN HO249.out (fun _ hk => by first | exact ⟨hk.1.1.2, hk.1.2⟩ | (refine ⟨?_, ?_⟩ <;> intro e_ <;> simp only [e_, ne_eq, not_true_eq_false, and_false, false_and] at hk))⟩, ⟨sqK BK222.out⟩, ⟨sqK BK231.out⟩, ⟨sqK BK251.out⟩, ⟨sqB⟩⟩
            ·replace c74 := Bool.eq_false_iff.mpr c74
             subst c74
             have H1 : (zc.j2 kj36 t240 true t226 t241) = some r := by rw [if_neg (show ¬ (false = true) by decide)] at H; exact H
             clear H
             have H := H1
             clear H1
             have H' := Aside0.mk H
             clear H
             have hnb81 := NB251_222.out
             have hnc81 := NB222_251.out
             have hnb82 := NB251_231.out
             have hnc82 := NB231_251.out
             have hcz83_0 : w68.cell? ⟨gb251, 0, none⟩ = some (.int .i64 0) := (za BK251.out 0).trans rfl
             have hcz83_1 : w68.cell? ⟨gb251, 1, none⟩ = some (.slice none 0 0) := (za BK251.out 1).trans rfl
             have hfz83_0 := zb BK251.out 0; have hfz83_1 := zb BK251.out 1
             have hnb84 := NB222_231.out
             have hnc84 := NB231_222.out
             have hcz85_0 : w68.cell? ⟨gb222, 0, none⟩ = some (.int .i64 t217) := (za BK222.out 0).trans rfl
             have hcz85_1 : w68.cell? ⟨gb222, 1, none⟩ = some (.slice Ao14 t218.length co14) := (za BK222.out 1).trans rfl
             have hfz85_0 := zb BK222.out 0; have hfz85_1 := zb BK222.out 1
             go_wp2_with (first | ((with_reducible refine zg (f := 16) rfl ?_); refine zx (some 83) rfl rfl Try.func16 (by kernel_rfl) rfl #[.agg #[.int .i64 t246, .slice Ao72 t247.length co72], .agg #[.int .i64 t217, .slice Ao14 t218.length co14]] rfl sqM ?_; (with_reducible refine (zy.calls kj36 t246 _ _ t247 t217 _ _ t218 false _ ?side1 ?side2 ?side3 ?side4 A73.out).mono ?_); (case side1 => refine (Kd.zm (e := 3) (base := w.heap.size) (ok := fun k_ => (((True ∧ some k_ ≠ (.slice Ao14 t218.length co14 : Value).ownBlock) ∧ some k_ ≠ (.slice Ao21 t227.length co21 : Value).ownBlock) ∧ some k_ ≠ (.slice Ao66 t243.length co66 : Value).ownBlock)) (n := t247.length) (c := co72) ?_).2.2; exact (by refine sqR ?_; exact (Kd.zN (Kd.zW (p := ⟨gb251, 1, none⟩) (Kd.zW (p := ⟨gb251, 0, none⟩) (Kd.qa HO249.out BK251.out (by decide)) (fun _ hk => hk.2) (.int .i64 t246)) (fun _ hk => hk.2) (.slice Ao72 t247.length co72)) (fun _ h_ => h_.1)))); (case side2 => exact (Kd.zm HO249.out).2.1); (case side3 => refine (Kd.zm (e := 3) (base := w.heap.size) (ok := fun k_ => ((some k_ ≠ (.slice Ao21 t227.length co21 : Value).ownBlock ∧ some k_ ≠ (.slice Ao66 t243.length co66 : Value).ownBlock) ∧ some k_ ≠ (.slice Ao72 t247.length co72 : Value).ownBlock)) (n := t218.length) (c := co14) ?_).2.2; exact (by refine sqR ?_; exact (Kd.zN (Kd.zW (p := ⟨gb251, 1, none⟩) (Kd.zW (p := ⟨gb251, 0, none⟩) (Kd.qa HO_223001.out BK251.out (by decide)) (fun _ hk => hk.2) (.int .i64 t246)) (fun _ hk => hk.2) (.slice Ao72 t247.length co72)) (fun _ h_ => h_.1)))); (case side4 => exact (Kd.zm HO_223001.out).2.1); rintro e w86 ⟨rfl, hb⟩; refine ⟨_, rfl, ?_⟩; have n0_ := Aside0.mk (Kd.zJ (by refine sqR ?_; exact (Kd.zN (Kd.zW (p := ⟨gb251, 1, none⟩) (Kd.zW (p := ⟨gb251, 0, none⟩) (Kd.qa HO_223001.out BK251.out (by decide)) (fun _ hk => hk.2) (.int .i64 t246)) (fun _ hk => hk.2) (.slice Ao72 t247.length co72)) (fun _ h_ => h_.1))) hb); have n1_ := Aside0.mk (Kd.zJ (by refine sqR ?_; exact (Kd.zN (Kd.zW (p := ⟨gb251, 1, none⟩) (Kd.zW (p := ⟨gb251, 0, none⟩) (Kd.qa HO_232001.out BK251.out (by decide)) (fun _ hk => hk.2) (.int .i64 t246)) (fun _ hk => hk.2) (.slice Ao72 t247.length co72)) (fun _ h_ => h_.1))) hb); have n2_ := Aside0.mk (Kd.zJ (by refine sqR ?_; exact (Kd.zN (Kd.zW (p := ⟨gb251, 1, none⟩) (Kd.zW (p := ⟨gb251, 0, none⟩) (Kd.qa HO245.out BK251.out (by decide)) (fun _ hk => hk.2) (.int .i64 t246)) (fun _ hk => hk.2) (.slice Ao72 t247.length co72)) (fun _ h_ => h_.1))) hb); have n3_ := Aside0.mk (Kd.zJ (by refine sqR ?_; exact (Kd.zN (Kd.zW (p := ⟨gb251, 1, none⟩) (Kd.zW (p := ⟨gb251, 0, none⟩) (Kd.qa HO249.out BK251.out (by decide)) (fun _ hk => hk.2) (.int .i64 t246)) (fun _ hk => hk.2) (.slice Ao72 t247.length co72)) (fun _ h_ => h_.1))) hb); have n4_ := Aside0.mk (zd (g := gb222) (o := .cells #[.int .i64 t217, .slice Ao14 t218.length co14] 27 (0, 0)) (by refine sqK ?_; refine qn ?_ NB222_251.out _; refine sqK ?_; refine qn ?_ NB222_251.out _; refine sqK ?_; exact BK222.out) hb); have n5_ := Aside0.mk (zd (g := gb231) (o := .cells #[.int .i64 t226, .slice Ao21 t227.length co21] 27 (0, 0)) (by refine sqK ?_; refine qn ?_ NB231_251.out _; refine sqK ?_; refine qn ?_ NB231_251.out _; refine sqK ?_; exact BK231.out) hb); have n6_ := Aside0.mk (zd (g := gb251) (o := .cells #[.int .i64 t246, .slice Ao72 t247.length co72] 27 (0, 0)) (by refine sqK ?_; refine zM (cs := #[.int .i64 t246, .slice none 0 0]) ?_ 1 _ rfl; refine sqK ?_; refine zM (cs := #[.int .i64 0, .slice none 0 0]) ?_ 0 _ rfl; refine sqK ?_; exact BK251.out) hb); have n7_ := Aside0.mk (ze sqB hb); clear HO_223001; clear HO_232001; clear HO245; clear HO249; clear BK222; clear BK231; clear BK251; clear HB; have HO_223001 := n0_; have HO_232001 := n1_; have HO245 := n2_; have HO249 := n3_; have BK222 := n4_; have BK231 := n5_; have BK251 := n6_; have HB := n7_; clear n0_ n1_ n2_ n3_ n4_ n5_ n6_ n7_; (try clear hb); (try clear hb2); (try clear hk); (try clear hi)))
             go_meet
             case rel => exact ⟨_, (true), (sqD), H', ⟨by have := HJ7.out; have := HJ36.out; first | omega | exact Nat.le_refl _⟩, ⟨by refine sqR ?_; exact Kd.zN HO_223001.out (fun _ hk => by first | exact ⟨hk.1.1, hk.2⟩ | (refine ⟨?_, ?_⟩ <;> intro e_ <;> simp only [e_, ne_eq, not_true_eq_false, and_false, false_and] at hk))⟩, ⟨by refine sqR ?_; exact Kd.zN HO_232001.out (fun _ hk => by first | exact ⟨hk.1.1, hk.2⟩ | (refine ⟨?_, ?_⟩ <;> intro e_ <;> simp only [e_, ne_eq, not_true_eq_false, and_false, false_and] at hk))⟩, ⟨by refine sqR ?_; exact Kd.zN HO249.out (fun _ hk => by first | exact ⟨hk.1.1.2, hk.1.2⟩ | (refine ⟨?_, ?_⟩ <;> intro e_ <;> simp only [e_, ne_eq, not_true_eq_false, and_false, false_and] at hk))⟩, ⟨sqK BK222.out⟩, ⟨sqK BK231.out⟩, ⟨sqK BK251.out⟩, ⟨sqB⟩⟩
           case rest =>
            clear HC59
            try clear c1
            try clear c2
            try clear p2
            try clear c3
            try clear c3b0
            try clear c3b1
            try clear c4
            try clear c5
            try clear c6
            try clear c7
            try clear c8
            try clear c16
            try clear c19
            try clear c21
            try clear c22
            try clear c23
            try clear c24
            try clear c28
            try clear c29
            try clear c30
            try clear c31
            try clear c32
            try clear c35
            try clear c41
            try clear c41b0
            try clear c43
            try clear c44
            try clear c48
            try clear c52
            try clear c55
            try clear c55b0
            try clear c56
            try clear c56b0
            try clear c56b1
            try clear c60
            try clear c69
            try clear c70
            try clear c74
            try clear c75
            try clear c76
            try clear c78
            try clear c81
            try clear c82
            try clear c84
            try clear hcz13_0
            try clear hcz13_1
            try clear hcz20_0
            try clear hcz20_1
            try clear hcz25_0
            try clear hcz25_1
            try clear hcz26_0
            try clear hcz26_1
            try clear hcz29_0
            try clear hcz29_1
            try clear hcz30_0
            try clear hcz30_1
            try clear hcz45_0
            try clear hcz45_1
            try clear hcz46_0
            try clear hcz46_1
            try clear hcz49_0
            try clear hcz49_1
            try clear hcz50_0
            try clear hcz50_1
            try clear hcz61_0
            try clear hcz61_1
            try clear hcz63_0
            try clear hcz63_1
            try clear hcz71_0
            try clear hcz71_1
            try clear hcz77_0
            try clear hcz77_1
            try clear hcz79_0
            try clear hcz79_1
            try clear hcz83_0
            try clear hcz83_1
            try clear hcz85_0
            try clear hcz85_1
            try clear hfz13_0
            try clear hfz13_1
            try clear hfz20_0
            try clear hfz20_1
            try clear hfz25_0
            try clear hfz25_1
            try clear hfz26_0
            try clear hfz26_1
            try clear hfz29_0
            try clear hfz29_1
            try clear hfz30_0
            try clear hfz30_1
            try clear hfz45_0
            try clear hfz45_1
            try clear hfz46_0
            try clear hfz46_1
            try clear hfz49_0
            try clear hfz49_1
            try clear hfz50_0
            try clear hfz50_1
            try clear hfz61_0
            try clear hfz61_1
            try clear hfz63_0
            try clear hfz63_1
            try clear hfz71_0
            try clear hfz71_1
            try clear hfz77_0
            try clear hfz77_1
            try clear hfz79_0
            try clear hfz79_1
            try clear hfz83_0
            try clear hfz83_1
            try clear hfz85_0
            try clear hfz85_1
            try clear p2
            obtain ⟨kq, x89_58, rfl, HA, HJ58, HO_223001, HO_232001, HO_252001, BK222, BK231, BK251, HB⟩ := hcut
            have hl232001_58 := (Kd.zm HO_232001.out).1
            rw [hl232001_58] at HO_232001
            (try simp only [hl232001_58])
            (try simp only [hl232001_58] at BK222)
            (try simp only [hl232001_58] at BK231)
            (try simp only [hl232001_58] at BK251)
            (try simp only [hl232001_58] at HO_223001)
            (try simp only [hl232001_58] at HO_252001)
            cases kq with
            | zero => exact absurd HA.out (by simp [zc.j2])
            | succ kj58 =>
             have H := HA.out
             clear HA
             simp only [zc.j2] at H
             by_cases c87 : x89_58 = true
             ·subst c87
              have H1 : (none) = some r := by rw [if_pos rfl] at H; exact H
              clear H
              have H := H1
              clear H1
              exact absurd H (by simp)
             ·replace c87 := Bool.eq_false_iff.mpr c87
              subst c87
              have H1 : ((qd.f kj58 t226 t241 1).bind fun t253 => (if t253 < 0 then (none) else (if t253 = t240 then (some true) else (none)))) = some r := by rw [if_neg (show ¬ (false = true) by decide)] at H; exact H
              clear H
              have H := H1
              clear H1
              replace H := Option.bind_eq_some_iff.mp H
              obtain ⟨t253, A880, H⟩ := H
              replace H : (if t253 < 0 then (none) else (if t253 = t240 then (some true) else (none))) = some r := H
              have A88 := Aside0.mk A880
              clear A880
              by_cases c89 : t253 < 0
              ·rw [if_pos c89] at H
               exact absurd H (by simp)
              ·rw [if_neg c89] at H
               have c89b0 : decide (t253 < 0) = false := decide_eq_false c89
               clear c89
               by_cases c90 : t253 = t240
               ·rw [if_pos c90] at H
                have c90b0 : (t253 == t240) = true := beq_iff_eq.mpr c90
                have c90b1 : (t253 != t240) = false := bne_eq_false_iff_eq.mpr c90
                clear c90
                obtain rfl := Option.some.inj H
                have hnb91 := NB231_222.out
                have hnc91 := NB222_231.out
                have hnb92 := NB231_251.out
                have hnc92 := NB251_231.out
                have hcz93_0 : wc.cell? ⟨gb231, 0, none⟩ = some (.int .i64 t226) := (za BK231.out 0).trans rfl
                have hcz93_1 : wc.cell? ⟨gb231, 1, none⟩ = some (.slice Ao21 t241.length co21) := (za BK231.out 1).trans rfl
                have hfz93_0 := zb BK231.out 0; have hfz93_1 := zb BK231.out 1
                go_wp2_with (first | ((with_reducible refine zg (f := 32) rfl ?_); refine zx (some 92) rfl rfl Try.func32 (by kernel_rfl) rfl #[.agg #[.int .i64 t226, .slice Ao21 t241.length co21], .int .i64 1] rfl sqM ?_; (with_reducible refine (qd.calls kj58 t226 _ _ t241 1 t253 _ ?side1 ?side2 A88.out).mono ?_); (case side1 => exact sqC (Kd.zm HO_232001.out).2.2); (case side2 => exact (Kd.zm HO_232001.out).2.1); rintro e w94 ⟨rfl, hb⟩; refine ⟨_, rfl, ?_⟩; have n0_ := Aside0.mk (Kd.zJ (sqR HO_223001.out) hb); have n1_ := Aside0.mk (Kd.zJ (sqR HO_232001.out) hb); have n2_ := Aside0.mk (Kd.zJ (sqR HO_252001.out) hb); have n3_ := Aside0.mk (zd (g := gb222) (o := .cells #[.int .i64 t217, .slice Ao14 t218.length co14] 27 (0, 0)) (sqK BK222.out) hb); have n4_ := Aside0.mk (zd (g := gb231) (o := .cells #[.int .i64 t226, .slice Ao21 t241.length co21] 27 (0, 0)) (sqK BK231.out) hb); have n5_ := Aside0.mk (zd (g := gb251) (o := .cells #[.int .i64 t246, .slice Ao72 t247.length co72] 27 (0, 0)) (sqK BK251.out) hb); have n6_ := Aside0.mk (ze sqB hb); clear HO_223001; clear HO_232001; clear HO_252001; clear BK222; clear BK231; clear BK251; clear HB; have HO_223001 := n0_; have HO_232001 := n1_; have HO_252001 := n2_; have BK222 := n3_; have BK231 := n4_; have BK251 := n5_; have HB := n6_; clear n0_ n1_ n2_ n3_ n4_ n5_ n6_; (try clear hb); (try clear hb2); (try clear hk); (try clear hi)))
                go_ret
                exact ⟨sqE, sqB⟩
               ·rw [if_neg c90] at H
                exact absurd H (by simp)
          ·rw [if_neg c56] at H
           exact absurd H (by simp)
     ·replace c35 := Bool.eq_false_iff.mpr c35
      subst c35
      have H1 : (none) = some r := by rw [if_neg (show ¬ (false = true) by decide)] at H; exact H
      clear H
      have H := H1
      clear H1
      exact absurd H (by simp)

end Go.Proofs.Ytmeopnlkddflaaa.F
end
section
namespace Go.Proofs.Ytmeopnlkddflaaa.Mt
def sdiff (a b : Nat) : Nat := a ^^^ (a &&& b)
theorem qv (a b i : Nat) : (sdiff a b).testBit i = (a.testBit i && !b.testBit i) := by
  simp [sdiff, Nat.testBit_xor, Nat.testBit_and]; cases a.testBit i <;> cases b.testBit i <;> rfl
def elems (s : Nat) : List Nat := (List.range 8).filter s.testBit
theorem qD {s e : Nat} : e ∈ elems s ↔ e < 8 ∧ s.testBit e = true := by simp [elems]
end Go.Proofs.Ytmeopnlkddflaaa.Mt
end
section
namespace Go.Proofs.Ytmeopnlkddflaaa.Bits
open Go.Proofs.Ytmeopnlkddflaaa.Mt (sdiff qv)
open Go.RowKit Go.Proofs.YtmeopnlkddflaaaW.PrintWords Go.Proofs.YtmeopnlkddflaaaW.PrintLast Go.Proofs.YtmeopnlkddflaaaW.PrintMore

theorem qR {n : Int} (h0 : -9223372036854775808 ≤ n) (h1 : n < 9223372036854775808) : wrap64 n = n := by unfold wrap64; omega
theorem vw {n : Int} (h0 : -9223372036854775808 ≤ n) (h1 : n < 9223372036854775808) : IntKind.i64.wrap n = n := by rw [IntKind.wrap_i64]; omega
theorem q8 {n : Int} (h0 : 0 ≤ n) (h1 : n < 18446744073709551616) : IntKind.u64.wrap n = n := by
  simp [IntKind.wrap, IntKind.bits, IntKind.signed]; omega
theorem ji (a : Nat) (ha : a < 2 ^ 63) : (BitVec.ofInt 64 (a : Int)).toNat = a := by
  simp; omega
theorem vt (a b : Nat) (ha : a < 2 ^ 63) (hb : b < 2 ^ 63) : Go.bits .and .i64 (a : Int) (b : Int) = ((a &&& b : Nat) : Int) := by
  have hab : a &&& b < 2 ^ 63 := Nat.and_lt_two_pow _ hb
  show IntKind.i64.wrap (((BitVec.ofInt 64 (a : Int) &&& BitVec.ofInt 64 (b : Int)).toNat : Nat) : Int) = _
  rw [BitVec.toNat_and, ji a ha, ji b hb]
  exact vw (by omega) (by omega)
theorem QF (a b : Nat) (ha : a < 2 ^ 63) (hb : b < 2 ^ 63) : Go.bits .or .i64 (a : Int) (b : Int) = ((a ||| b : Nat) : Int) := by
  have hab : a ||| b < 2 ^ 63 := Nat.or_lt_two_pow ha hb
  show IntKind.i64.wrap (((BitVec.ofInt 64 (a : Int) ||| BitVec.ofInt 64 (b : Int)).toNat : Nat) : Int) = _
  rw [BitVec.toNat_or, ji a ha, ji b hb]
  exact vw (by omega) (by omega)
theorem Zb {a b n : Nat} (ha : a < 2 ^ n) : sdiff a b < 2 ^ n := Nat.xor_lt_two_pow ha (Nat.lt_of_le_of_lt Nat.and_le_left ha)
theorem jT (a b : Nat) (ha : a < 2 ^ 63) (hb : b < 2 ^ 63) : Go.bits .andNot .i64 (a : Int) (b : Int) = ((sdiff a b : Nat) : Int) := by
  have hab : sdiff a b < 2 ^ 63 := Zb ha
  show IntKind.i64.wrap (((BitVec.ofInt 64 (a : Int) &&& ~~~ BitVec.ofInt 64 (b : Int)).toNat : Nat) : Int) = _
  have : (BitVec.ofInt 64 (a : Int) &&& ~~~ BitVec.ofInt 64 (b : Int)).toNat = sdiff a b := by
    apply Nat.eq_of_testBit_eq
    intro i
    rw [qv]
    rw [BitVec.toNat_and, Nat.testBit_and, ji a ha]
    by_cases hi : i < 64
    · rw [BitVec.testBit_toNat, BitVec.getLsbD_not, ← BitVec.testBit_toNat, ji b hb]; simp [hi]
    · have : a.testBit i = false := Nat.testBit_lt_two_pow (Nat.lt_of_lt_of_le ha (Nat.pow_le_pow_right (by decide) (by omega)))
      simp [this]
  rw [this]
  exact vw (by omega) (by omega)
theorem jg (e : Nat) (he : e < 63) : shl .i64 1 (e : Int) = ((2 ^ e : Nat) : Int) := by
  have h : 2 ^ e < 2 ^ 63 := Nat.pow_lt_pow_right (by decide) he
  unfold shl
  rw [Nat.min_eq_left (by simp [IntKind.bits]; omega), Int.one_mul, Int.toNat_natCast]
  rw [show (2 : Int) ^ e = ((2 ^ e : Nat) : Int) by simp]
  generalize 2 ^ e = x at h ⊢
  exact vw (by omega) (by omega)
theorem Qp (a e : Nat) (he : e ≤ 64) : shr .i64 (a : Int) (e : Int) = ((a >>> e : Nat) : Int) := by
  unfold shr
  rw [Nat.min_eq_left (by simp [IntKind.bits]; omega), Int.toNat_natCast, Nat.shiftRight_eq_div_pow]
  simp
theorem Zz (a e : Nat) (ha : a < 2 ^ 63) (he : e ≤ 64) : (Go.bits .and .i64 (shr .i64 (a : Int) (e : Int)) 1 == 1) = a.testBit e := by
  have h1 : a >>> e < 2 ^ 63 := Nat.lt_of_le_of_lt (by rw [Nat.shiftRight_eq_div_pow]; exact Nat.div_le_self _ _) ha
  rw [Qp a e he, show (1 : Int) = ((1 : Nat) : Int) from rfl, vt _ _ h1 (by decide)]
  simp only [Nat.testBit, Nat.and_comm 1]
  rcases Nat.mod_two_eq_zero_or_one (a >>> e) with h | h <;> simp [Nat.and_one_is_mod, h] <;> rfl

end Go.Proofs.Ytmeopnlkddflaaa.Bits
end
section
namespace Go.Proofs.Ytmeopnlkddflaaa.L
open Go.RowKit Go.Proofs.YtmeopnlkddflaaaW.PrintWords Go.Proofs.YtmeopnlkddflaaaW.PrintLast Go.Proofs.YtmeopnlkddflaaaW.PrintMore
open Go.Proofs.Ytmeopnlkddflaaa.Bits

theorem Ev.succ {α : Type} {g : Nat → Option α} {r : α} (h : Ev (fun k => g (k + 1)) r) : Ev g r := Ev.step (fun _ => rfl) h
theorem Ev.some {α : Type} {r s : α} (h : r = s) : Ev (fun _ => Option.some r) s := h ▸ Ev.now r
theorem qe {i : Nat} (h : i < 9223372036854775807) : wrap64 ((i : Int) + 1) = ((i + 1 : Nat) : Int) := qR (by omega) (by omega)

/-- A loop that asks of all places, and says no at the first that fails. -/
theorem y0 (L : Nat → Int → Option Bool) (n : Nat) (p : Nat → Bool) (hend : ∀ k, L (k + 1) (n : Int) = some true)
    (hstep : ∀ i, i < n → ∀ k, L (k + 1) (i : Int) = if p i = true then L k ((i + 1 : Nat) : Int) else some false) :
    ∀ d i, i + d = n → Ev (fun k => L k (i : Int)) ((List.range' i d).all p)
  | 0, i, hd => by
    obtain rfl : i = n := by omega
    refine Ev.succ ?_
    simp only [hend]; exact Ev.now _
  | d + 1, i, hd => by
    refine Ev.succ ?_
    rw [List.range'_succ, List.all_cons]
    simp only [hstep i (by omega)]
    cases hp : p i
    · simp only [Bool.false_eq_true, if_false, Bool.false_and]; exact Ev.now _
    · simp only [if_true, Bool.true_and]; exact y0 L n p hend hstep d (i + 1) (by omega)
theorem vy (L : Nat → Int → Option Bool) (n : Nat) (p : Nat → Bool) (hend : ∀ k, L (k + 1) (n : Int) = some true)
    (hstep : ∀ i, i < n → ∀ k, L (k + 1) (i : Int) = if p i = true then L k ((i + 1 : Nat) : Int) else some false) :
    Ev (fun k => L k 0) ((List.range n).all p) := by
  rw [List.range_eq_range']; exact y0 L n p hend hstep n 0 (by omega)
/-- A loop that gathers: at each place the state takes a step; an invariant goes along. -/
theorem yB {σ ρ : Type} (L : Nat → σ → Int → Option ρ) (n : Nat) (step : σ → Nat → σ) (inv : Nat → σ → Prop) (fin : σ → ρ)
    (hend : ∀ s, inv n s → Ev (fun k => L (k + 1) s (n : Int)) (fin s))
    (hstep : ∀ i s, i < n → inv i s → inv (i + 1) (step s i) ∧ ∀ r, Ev (fun k => L k (step s i) ((i + 1 : Nat) : Int)) r → Ev (fun k => L (k + 1) s (i : Int)) r) :
    ∀ d i s, i + d = n → inv i s → Ev (fun k => L k s (i : Int)) (fin ((List.range' i d).foldl step s))
  | 0, i, s, hd, hi => by
    obtain rfl : i = n := by omega
    exact Ev.succ (hend s hi)
  | d + 1, i, s, hd, hi => by
    refine Ev.succ ?_
    obtain ⟨h1, h2⟩ := hstep i s (by omega) hi
    exact h2 _ (yB L n step inv fin hend hstep d (i + 1) (step s i) (by omega) h1)
theorem jr {σ ρ : Type} (L : Nat → σ → Int → Option ρ) (n : Nat) (step : σ → Nat → σ) (inv : Nat → σ → Prop) (fin : σ → ρ)
    (hend : ∀ s, inv n s → Ev (fun k => L (k + 1) s (n : Int)) (fin s))
    (hstep : ∀ i s, i < n → inv i s → inv (i + 1) (step s i) ∧ ∀ r, Ev (fun k => L k (step s i) ((i + 1 : Nat) : Int)) r → Ev (fun k => L (k + 1) s (i : Int)) r) (s : σ) (h : inv 0 s) :
    Ev (fun k => L k s 0) (fin ((List.range n).foldl step s)) := by
  rw [List.range_eq_range']; exact yB L n step inv fin hend hstep n 0 s (by omega) h

/-- A loop that gathers, and what stands behind it. -/
theorem j9 {σ ρ : Type} (L : Nat → σ → Int → Option ρ) (n : Nat) (step : σ → Nat → σ) (inv : Nat → σ → Prop)
    (hstep : ∀ i s, i < n → inv i s → inv (i + 1) (step s i) ∧ ∀ r, Ev (fun k => L k (step s i) ((i + 1 : Nat) : Int)) r → Ev (fun k => L (k + 1) s (i : Int)) r) (s : σ) (h : inv 0 s) :
    inv n ((List.range n).foldl step s) ∧ ∀ r, Ev (fun k => L k ((List.range n).foldl step s) (n : Int)) r → Ev (fun k => L k s 0) r := by
  have key : ∀ d i s, i + d = n → inv i s → inv n ((List.range' i d).foldl step s) ∧ ∀ r, Ev (fun k => L k ((List.range' i d).foldl step s) (n : Int)) r → Ev (fun k => L k s (i : Int)) r := by
    intro d
    induction d with
    | zero => intro i s hd hi; obtain rfl : i = n := by omega
              exact ⟨hi, fun r h => h⟩
    | succ d ih =>
      intro i s hd hi
      obtain ⟨h1, h2⟩ := hstep i s (by omega) hi
      obtain ⟨h3, h4⟩ := ih (i + 1) (step s i) (by omega) h1
      rw [List.range'_succ, List.foldl_cons]
      exact ⟨h3, fun r h => Ev.succ (h2 r (h4 r h))⟩
  rw [List.range_eq_range']
  exact key n 0 s (by omega) h
/-- A loop from its end back: what a place makes of the answer of what follows. -/
theorem qH {ρ : Type} (L : Nat → Int → Option ρ) (n : Nat) (f : Nat → ρ → ρ) (last : ρ) (hend : Ev (fun k => L (k + 1) (n : Int)) last)
    (hstep : ∀ i, i < n → ∀ r, Ev (fun k => L k ((i + 1 : Nat) : Int)) r → Ev (fun k => L (k + 1) (i : Int)) (f i r)) : Ev (fun k => L k 0) ((List.range n).foldr f last) := by
  have key : ∀ d i, i + d = n → Ev (fun k => L k (i : Int)) ((List.range' i d).foldr f last) := by
    intro d
    induction d with
    | zero => intro i hd; obtain rfl : i = n := by omega
              exact Ev.succ hend
    | succ d ih =>
      intro i hd
      rw [List.range'_succ, List.foldr_cons]
      exact Ev.succ (hstep i (by omega) _ (ih (i + 1) (by omega)))
  rw [List.range_eq_range']
  exact key n 0 (by omega)
theorem vB {α : Type} (p : α → Bool) (r : Bool) : ∀ l : List α, l.foldr (fun i r => p i && r) r = (l.all p && r)
  | [] => by simp
  | a :: l => by rw [List.foldr_cons, List.all_cons, vB p r l, Bool.and_assoc]
theorem vF {α : Type} (p : α → Bool) (r : Bool) : ∀ l : List α, l.foldr (fun i r => p i || r) r = (l.any p || r)
  | [] => by simp
  | a :: l => by rw [List.foldr_cons, List.any_cons, vF p r l, Bool.or_assoc]
theorem qN (l : List Int) (j : Nat) : rd l (j : Int) = l.getD j 0 := by simp [rd]
end Go.Proofs.Ytmeopnlkddflaaa.L
end
section
namespace Go.Proofs.Ytmeopnlkddflaaa.L
open Go.RowKit Go.Proofs.Ytmeopnlkddflaaa.F Go.Proofs.YtmeopnlkddflaaaW.PrintWords Go.Proofs.YtmeopnlkddflaaaW.PrintLast Go.Proofs.YtmeopnlkddflaaaW.PrintMore
open Go.Proofs.Ytmeopnlkddflaaa.Bits
open Go.Proofs.Ytmeopnlkddflaaa.Mt (sdiff qv elems qD)

def ints (l : List Nat) : List Int := l.map fun x : Nat => (x : Int)
theorem ZG (l : List Nat) (j : Nat) (h : j < l.length) : rd (ints l) (j : Int) = ((l[j]'h : Nat) : Int) := by
  simp [rd, ints, List.getElem?_eq_getElem h]
theorem zK (l : List Nat) : (ints l).length = l.length := by simp [ints]
theorem vp (s : Nat) : (elems s).length ≤ 8 := by
  have := List.length_filter_le s.testBit (List.range 8); simpa [elems] using this
/-- A number that is a set of eight elements. -/
def isAny (s : Int) : Bool := decide (0 ≤ s ∧ s < 256)

theorem ZB (s : Int) : qp.f s = some (isAny s) := by
  unfold qp.f isAny
  split <;> simp <;> omega

theorem QJ (x a b : Int) : zS.f x a b = some (decide (a ≤ x ∧ x ≤ b)) := by
  unfold zS.f
  split <;> simp <;> omega

theorem ZD (n s : Int) : z8.f n s = some (decide (0 ≤ n ∧ n ≤ 8 ∧ 0 ≤ s ∧ s < 2 ^ n.toNat)) := by
  unfold z8.f
  simp only [QJ, Option.bind_some, decide_eq_true_eq]
  split
  · rename_i h
    obtain ⟨m, rfl⟩ := Int.eq_ofNat_of_zero_le h.1
    have hm : m ≤ 8 := by omega
    have hp : (2 : Nat) ^ m ≤ 2 ^ 8 := Nat.pow_le_pow_right (by decide) hm
    rw [q8 (by omega) (by omega), jg m (by omega), if_pos (by omega)]
    rw [qR (by generalize 2 ^ m = x at hp ⊢; omega) (by generalize 2 ^ m = x at hp ⊢; omega)]
    simp only [Int.toNat_natCast, Option.some.injEq, decide_eq_decide]
    have : (2 : Int) ^ m = ((2 ^ m : Nat) : Int) := by simp
    rw [this]
    generalize 2 ^ m = x at hp ⊢
    omega
  · simp; omega

theorem vn (n : Int) : z7.f n = some (decide (0 ≤ n ∧ n ≤ 8)) := by
  unfold z7.f
  split <;> simp <;> omega
theorem QB (n s : Int) : qJ.f n s = some (decide (0 ≤ n ∧ n ≤ 8 ∧ 0 ≤ s ∧ s < 2 ^ n.toNat)) := by
  unfold qJ.f
  rw [vn]
  simp only [Option.bind_some, decide_eq_true_eq]
  by_cases h : 0 ≤ n ∧ n ≤ 8
  · rw [if_pos h]
    by_cases hs : s ≥ 0
    · rw [if_pos hs, if_pos h.1]
      obtain ⟨m, rfl⟩ := Int.eq_ofNat_of_zero_le h.1
      rw [jg m (by omega)]
      simp only [Int.toNat_natCast, Option.some.injEq, decide_eq_decide]
      have : (2 : Int) ^ m = ((2 ^ m : Nat) : Int) := by simp
      rw [this]
      generalize 2 ^ m = x
      omega
    · rw [if_neg hs]; simp; omega
  · rw [if_neg h]; simp; omega
theorem yN (s e : Int) : qw.f s e = some (isAny s && decide (0 ≤ e ∧ e < 8) && s.toNat.testBit e.toNat) := by
  unfold qw.f
  rw [ZB]
  simp only [Option.bind_some]
  cases hs : isAny s
  · simp
  · rw [if_pos rfl]
    have hs' : 0 ≤ s ∧ s < 256 := by simpa [isAny] using hs
    by_cases h0 : e ≥ 0
    · rw [if_pos h0]
      by_cases h8 : e < 8
      · obtain ⟨a, rfl⟩ := Int.eq_ofNat_of_zero_le hs'.1
        obtain ⟨b, rfl⟩ := Int.eq_ofNat_of_zero_le h0
        rw [if_pos h8, if_pos h0, Zz _ _ (by omega) (by omega)]
        simp; omega
      · rw [if_neg h8]; simp; omega
    · rw [if_neg h0]; simp; omega

/-- The elements of a number: none where it is no set. -/
def yd (s : Int) : List Nat := if isAny s then elems s.toNat else []

theorem vk (s : Int) (L : Nat → List Int → Int → Option (List Int))
    (hL : ∀ k (acc : List Int) (i : Nat), L (k + 1) acc i = if (i : Int) < 8 then (if (isAny s && decide (0 ≤ (i : Int) ∧ (i : Int) < 8) && s.toNat.testBit (i : Int).toNat) = true then (if acc.length < 17592186044416 then L k (acc ++ [(i : Int)]) (wrap64 ((i : Int) + 1)) else none) else L k acc (wrap64 ((i : Int) + 1))) else some acc) :
    ∀ (d i : Nat) (acc : List Int), i + d = 8 → acc.length ≤ i → Ev (fun k => L k acc i) (acc ++ ints ((List.range' i d).filter fun e => isAny s && s.toNat.testBit e))
  | 0, i, acc, hd, _ => by
    obtain rfl : i = 8 := by omega
    refine Ev.succ ?_
    simp only [hL, show ¬ (((8 : Nat) : Int) < 8) by decide, if_false]
    simpa [ints] using Ev.now acc
  | d + 1, i, acc, hd, ha => by
    refine Ev.succ ?_
    have h8 : (i : Int) < 8 := by omega
    have hw : wrap64 ((i : Int) + 1) = ((i + 1 : Nat) : Int) := qR (by omega) (by omega)
    simp only [hL, h8, hw, if_true, Int.toNat_natCast, Int.natCast_nonneg, decide_true, Bool.and_true, and_self]
    rw [List.range'_succ]
    cases hb : (isAny s && s.toNat.testBit i)
    · simp only [hb, List.filter_cons, Bool.false_eq_true, if_false]
      exact vk s L hL d (i + 1) acc (by omega) (by omega)
    · simp only [hb, List.filter_cons, if_true, show acc.length < 17592186044416 by omega]
      have := vk s L hL d (i + 1) (acc ++ [(i : Int)]) (by omega) (by simp; omega)
      simpa [ints] using this

theorem ZO (s : Int) : (List.range' 0 8).filter (fun e => isAny s && s.toNat.testBit e) = yd s := by
  unfold yd elems
  rw [List.range_eq_range']
  cases isAny s <;> simp

theorem vr (s : Int) : Ev (fun k => zA.f k s) (ints (yd s)) := by
  have := vk s (fun k acc i => zA.l0 k s acc i) (fun k acc i => by simp only [zA.l0, yN, Option.bind_some]) 8 0 [] rfl (by simp)
  rw [ZO] at this
  simpa [zA.f] using this

end Go.Proofs.Ytmeopnlkddflaaa.L
end
section
namespace Go.Proofs.Ytmeopnlkddflaaa.Mt
theorem ZJ (a b i : Nat) : (a &&& b).testBit i = (a.testBit i && b.testBit i) := Nat.testBit_and a b i
theorem QH (e i : Nat) : (2 ^ e).testBit i = decide (e = i) := by
  rw [Nat.testBit_two_pow]
theorem ext {a b : Nat} (h : ∀ i, a.testBit i = b.testBit i) : a = b := Nat.eq_of_testBit_eq h
/-- s with e; s without e. -/
def ins (s e : Nat) : Nat := s ||| 2 ^ e
def del (s e : Nat) : Nat := sdiff s (2 ^ e)
theorem ZF (s e i : Nat) : (del s e).testBit i = (s.testBit i && !decide (e = i)) := by rw [del, qv, QH]
def sub (a b : Nat) : Prop := ∀ i, a.testBit i = true → b.testBit i = true
theorem Ze {a b : Nat} : sub a b ↔ a &&& b = a := by
  constructor
  · intro h; apply ext; intro i; rw [ZJ]; have := h i; cases ha : a.testBit i <;> simp_all
  · intro h i hi; have := congrArg (fun x => Nat.testBit x i) h; simp only [ZJ, hi, Bool.true_and] at this; exact this
theorem QK (s e : Nat) : sub (del s e) s := fun i hi => by rw [ZF] at hi; simp at hi; exact hi.1
theorem yR {s n i : Nat} (h : s < 2 ^ n) (hi : s.testBit i = true) : i < n := by
  rcases Nat.lt_or_ge i n with h' | h'
  · exact h'
  · rw [Nat.testBit_lt_two_pow (Nat.lt_of_lt_of_le h (Nat.pow_le_pow_right (by decide) h'))] at hi; cases hi
theorem ZR {a b : Nat} (h : sub a b) : a ≤ b := by rw [Ze] at h; rw [← h]; exact Nat.and_le_right
/-- All elements below n. -/
def full (n : Nat) : Nat := 2 ^ n - 1
theorem Zy (n : Nat) : full n < 2 ^ n := Nat.sub_lt (Nat.two_pow_pos n) (by decide)
def cnt (s : Nat) : Nat := (List.range 8).countP s.testBit
theorem yX : cnt 0 = 0 := by decide
theorem Zo (s : Nat) : cnt s ≤ 8 := by have := List.countP_le_length (p := s.testBit) (l := List.range 8); simpa [cnt] using this
/-- The bases of a matroid of n elements: by exchange. -/
structure Mat (n : Nat) (B : List Nat) : Prop where
  size : n ≤ 8
  lt : ∀ b ∈ B, b < 2 ^ n
  ne : B ≠ []
  ex : ∀ a ∈ B, ∀ b ∈ B, ∀ e, a.testBit e = true → b.testBit e = false → ∃ f, b.testBit f = true ∧ a.testBit f = false ∧ ins (del a e) f ∈ B
section
variable {n : Nat} {B : List Nat}
theorem jj {s n : Nat} (hn : n ≤ 8) (h : s < 2 ^ n) : s < 256 := Nat.lt_of_lt_of_le h (Nat.pow_le_pow_right (n := 2) (by decide) hn)
/-- The rank of s: the most that a base has of it. -/
def rk (B : List Nat) (s : Nat) : Nat := B.foldl (fun m b => max m (cnt (s &&& b))) 0
end
end Go.Proofs.Ytmeopnlkddflaaa.Mt
end
section
namespace Go.Proofs.Ytmeopnlkddflaaa.L
open Go.RowKit Go.Proofs.Ytmeopnlkddflaaa.F Go.Proofs.YtmeopnlkddflaaaW.PrintWords Go.Proofs.YtmeopnlkddflaaaW.PrintLast Go.Proofs.YtmeopnlkddflaaaW.PrintMore
open Go.Proofs.Ytmeopnlkddflaaa.Bits
open Go.Proofs.Ytmeopnlkddflaaa.Mt (sdiff qv elems qD cnt Zo full)
set_option linter.unusedSimpArgs false
set_option linter.unusedVariables false
theorem yy (l : List Int) (x : Int) : ((List.range l.length).any fun i => decide (l.getD i 0 = x)) = decide (x ∈ l) := by
  rw [Bool.eq_iff_iff]
  simp only [List.any_eq_true, List.mem_range, decide_eq_true_eq]
  constructor
  · rintro ⟨i, hi, h⟩
    rw [← h, List.getD_eq_getElem?_getD, List.getElem?_eq_getElem hi]; exact List.getElem_mem hi
  · intro h
    obtain ⟨i, hi, he⟩ := List.getElem_of_mem h
    exact ⟨i, hi, by rw [List.getD_eq_getElem?_getD, List.getElem?_eq_getElem hi]; exact he⟩
theorem Qn (l : List Int) (x : Int) (hl : l.length ≤ 17592186044416) : Ev (fun k => zQ.f k l x) (decide (x ∈ l)) := by
  unfold zQ.f
  have h := qH (fun k i => zQ.l0 k l x i) l.length (fun i r => decide (l.getD i 0 = x) || r) false
    (by simp only [zQ.l0, show ¬ ((l.length : Int) < (l.length : Int)) by omega, if_false]; exact Ev.now _) fun i hi r hr => by
      simp only [zQ.l0, show ((i : Int) < (l.length : Int)) by omega, show (0 : Int) ≤ (i : Int) by omega, if_true, qN, qe (show i < 9223372036854775807 by omega)]
      by_cases h : l.getD i 0 = x
      · simp only [h, if_true, decide_true, Bool.true_or]; exact Ev.now _
      · simp only [h, if_false, decide_false, Bool.false_or]; exact hr
  rw [vF, Bool.or_false, yy] at h
  exact h
theorem Z8 (l : List Int) (x : Int) (hl : l.length ≤ 17592186044416) : Ev (fun k => qV.f k l x) (decide (x ∈ l)) := by
  unfold qV.f qg.f zE.f
  have key : ∃ r : Int, Ev (fun k => zE.l0 k l x (l.length : Int) 0) r ∧ decide (r ≥ 0) = decide (x ∈ l) := by
    refine ⟨(List.range l.length).foldr (fun i r => if x = l.getD i 0 then (i : Int) else r) (-1), ?_, ?_⟩
    · refine qH (fun k i => zE.l0 k l x (l.length : Int) i) l.length _ (-1) ?_ fun i hi r hr => ?_
      · simp only [zE.l0, show ¬ ((l.length : Int) < (l.length : Int)) by omega, if_false]; exact Ev.now _
      · simp only [zE.l0, show ((i : Int) < (l.length : Int)) by omega, show (0 : Int) ≤ (i : Int) by omega, if_true, qN, qe (show i < 9223372036854775807 by omega)]
        by_cases h : x = l.getD i 0
        · rw [if_pos h]; simp only [if_pos h]; exact Ev.now _
        · rw [if_neg h]; simp only [if_neg h]; exact hr
    · have hh : ∀ L : List Nat, (0 ≤ L.foldr (fun i r => if x = l.getD i 0 then (i : Int) else r) (-1)) ↔ (L.any fun i => decide (l.getD i 0 = x)) = true := by
        intro L
        induction L with
        | nil => simp
        | cons i t ih =>
          simp only [List.foldr_cons, List.any_cons, Bool.or_eq_true, decide_eq_true_eq]
          by_cases h : x = l.getD i 0
          · simp only [if_pos h]; exact ⟨fun _ => .inl h.symm, fun _ => by omega⟩
          · simp only [if_neg h]; rw [ih]; exact ⟨.inr, fun hh => hh.elim (fun e => absurd e.symm h) id⟩
      rw [← yy, Bool.eq_iff_iff, decide_eq_true_eq]
      exact hh _
  obtain ⟨r, hr, e⟩ := key
  refine Ev.bind (Ev.bind hr (Ev.now _)) ?_
  rw [← e]; exact Ev.now _
def vC (n s : Int) : Bool := decide (0 ≤ n ∧ n ≤ 8 ∧ 0 ≤ s ∧ s < 2 ^ n.toNat)
def jo (n : Int) (l : List Int) : Bool := ((List.range l.length).all fun i => vC n (l.getD i 0) && (decide (i = 0) || decide (l.getD (i - 1) 0 < l.getD i 0))) && decide (0 ≤ n ∧ n ≤ 8)
theorem yo {i : Nat} (h : i < 9223372036854775807) (h0 : 0 < i) : wrap64 ((i : Int) - 1) = ((i - 1 : Nat) : Int) := by rw [qR (by omega) (by omega)]; omega
theorem Zi (n : Int) (l : List Int) (hl : l.length ≤ 17592186044416) : Ev (fun k => zC.f k n l) (jo n l) := by
  unfold zC.f
  have h := qH (fun k i => zC.l0 k n l i) l.length (fun i r => (vC n (l.getD i 0) && (decide (i = 0) || decide (l.getD (i - 1) 0 < l.getD i 0))) && r) (decide (0 ≤ n ∧ n ≤ 8))
    (by simp only [zC.l0, show ¬ ((l.length : Int) < (l.length : Int)) by omega, if_false, QJ, Option.bind_some]; exact Ev.now _) fun i hi r hr => by
      simp only [zC.l0, show ((i : Int) < (l.length : Int)) by omega, show (0 : Int) ≤ (i : Int) by omega, if_true, qN, ZD, Option.bind_some, decide_eq_true_eq, qe (show i < 9223372036854775807 by omega)]
      unfold vC
      by_cases hs : 0 ≤ n ∧ n ≤ 8 ∧ 0 ≤ l.getD i 0 ∧ l.getD i 0 < 2 ^ n.toNat
      · simp only [hs, and_self, if_true, decide_true, Bool.true_and]
        by_cases h0 : i = 0
        · subst h0
          simp only [show ¬ (((0 : Nat) : Int) > 0) by omega, if_false, decide_true, Bool.true_or, Bool.true_and]; exact hr
        · simp only [show ((i : Int) > 0) by omega, if_true, yo (show i < 9223372036854775807 by omega) (Nat.pos_of_ne_zero h0), show (0 : Int) ≤ ((i - 1 : Nat) : Int) by omega, show ((i - 1 : Nat) : Int) < (l.length : Int) by omega, qN, h0, decide_false, Bool.false_or]
          by_cases hc : l.getD (i - 1) 0 < l.getD i 0
          · simp only [show ¬ (l.getD (i - 1) 0 ≥ l.getD i 0) by omega, if_false, hc, decide_true, Bool.true_and]; exact hr
          · simp only [show (l.getD (i - 1) 0 ≥ l.getD i 0) by omega, if_true, hc, decide_false, Bool.false_and]; exact Ev.now _
      · simp only [if_neg hs, decide_eq_false hs, Bool.false_and]; exact Ev.now _
  rw [vB] at h
  exact h
theorem Zp (n : Int) (l : List Int) (hl : l.length ≤ 17592186044416) : Ev (fun k => zB.f k n l) (jo n l) := by
  unfold zB.f
  have h := qH (fun k i => zB.l0 k n l l (l.length : Int) i) l.length (fun i r => (vC n (l.getD i 0) && (decide (i = 0) || decide (l.getD (i - 1) 0 < l.getD i 0))) && r) (decide (0 ≤ n ∧ n ≤ 8))
    (by simp only [zB.l0, show ¬ ((l.length : Int) < (l.length : Int)) by omega, if_false, vn, Option.bind_some]; exact Ev.now _) fun i hi r hr => by
      simp only [zB.l0, show ((i : Int) < (l.length : Int)) by omega, show (0 : Int) ≤ (i : Int) by omega, if_true, qN, QB, Option.bind_some, decide_eq_true_eq, qe (show i < 9223372036854775807 by omega)]
      unfold vC
      by_cases hs : 0 ≤ n ∧ n ≤ 8 ∧ 0 ≤ l.getD i 0 ∧ l.getD i 0 < 2 ^ n.toNat
      · simp only [hs, and_self, if_true, decide_true, Bool.true_and]
        by_cases h0 : i = 0
        · subst h0
          simp only [show ¬ (((0 : Nat) : Int) > 0) by omega, if_false, decide_true, Bool.true_or, Bool.true_and]; exact hr
        · simp only [show ((i : Int) > 0) by omega, if_true, yo (show i < 9223372036854775807 by omega) (Nat.pos_of_ne_zero h0), show (0 : Int) ≤ ((i - 1 : Nat) : Int) by omega, show ((i - 1 : Nat) : Int) < (l.length : Int) by omega, qN, h0, decide_false, Bool.false_or]
          by_cases hc : l.getD (i - 1) 0 < l.getD i 0
          · simp only [show ¬ (l.getD i 0 ≤ l.getD (i - 1) 0) by omega, if_false, hc, decide_true, Bool.true_and]; exact hr
          · simp only [show (l.getD i 0 ≤ l.getD (i - 1) 0) by omega, if_true, hc, decide_false, Bool.false_and]; exact Ev.now _
      · simp only [if_neg hs, decide_eq_false hs, Bool.false_and]; exact Ev.now _
  rw [vB] at h
  exact h
/-- What a family holds, in natural numbers. -/
theorem vz {n : Int} {l : List Int} (h : jo n l = true) : ∃ (N : Nat) (B : List Nat), n = N ∧ N ≤ 8 ∧ l = ints B ∧ (∀ b ∈ B, b < 2 ^ N) ∧ B.Pairwise (· < ·) := by
  unfold jo at h
  simp only [Bool.and_eq_true, decide_eq_true_eq, List.all_eq_true, List.mem_range, Bool.or_eq_true] at h
  obtain ⟨h1, h2, h3⟩ := h
  obtain ⟨N, rfl⟩ := Int.eq_ofNat_of_zero_le h2
  have hset : ∀ i (hi : i < l.length), 0 ≤ l[i] ∧ l[i] < 2 ^ N := fun i hi => by
    have := (h1 i hi).1
    simp only [vC, decide_eq_true_eq, Int.toNat_natCast, List.getD_eq_getElem?_getD, List.getElem?_eq_getElem hi, Option.getD_some] at this
    exact ⟨this.2.2.1, this.2.2.2⟩
  have hstep : ∀ i (hi : i + 1 < l.length), l[i] < l[i + 1] := fun i hi => by
    have := (h1 (i + 1) hi).2
    simp only [Nat.succ_ne_zero, false_or, Nat.add_sub_cancel, List.getD_eq_getElem?_getD, List.getElem?_eq_getElem hi, List.getElem?_eq_getElem (show i < l.length by omega), Option.getD_some] at this
    exact this
  have hlt : ∀ j (hj : j < l.length) i (hi : i < j), l[i] < l[j] := by
    intro j
    induction j with
    | zero => intro _ i hi; omega
    | succ j ih =>
      intro hj i hi
      by_cases e : i = j
      · subst e; exact hstep i hj
      · exact Int.lt_trans (ih (by omega) i (by omega)) (hstep j hj)
  refine ⟨N, l.map Int.toNat, rfl, by omega, ?_, ?_, ?_⟩
  · apply List.ext_getElem (by simp [ints])
    intro i h1 h2
    have := (hset i h1).1
    simp [ints]; omega
  · intro b hb
    obtain ⟨x, hx, rfl⟩ := List.mem_map.1 hb
    obtain ⟨i, hi, rfl⟩ := List.getElem_of_mem hx
    have := hset i hi
    have e : (2 : Int) ^ N = ((2 ^ N : Nat) : Int) := by simp
    rw [e] at this
    generalize 2 ^ N = y at this ⊢
    omega
  · rw [List.pairwise_iff_getElem]
    intro i j hi hj hij
    simp only [List.length_map] at hi hj
    have := hlt j hj i hij
    have := (hset i hi).1
    simp only [List.getElem_map]; omega
def ZZ (s : Int) : Nat := if isAny s then cnt s.toNat else 0
theorem QY : ∀ s : Nat, s < 256 → qy.f (s : Int) = some (cnt s : Int) := by decide +kernel
theorem yp (s : Int) : qE.f s = some (ZZ s : Int) := by
  unfold qE.f ZZ
  rw [ZB]
  simp only [Option.bind_some]
  cases h : isAny s
  · simp
  · have hs : 0 ≤ s ∧ s < 256 := by simpa [isAny] using h
    obtain ⟨a, rfl⟩ := Int.eq_ofNat_of_zero_le hs.1
    rw [q8 (by omega) (by omega)]
    simp only [if_true, qt.f, Option.bind_some, Int.toNat_natCast]
    rw [QY a (by omega)]; rfl
end Go.Proofs.Ytmeopnlkddflaaa.L
end
section
namespace Go.Proofs.Ytmeopnlkddflaaa.L
open Go.RowKit Go.Proofs.Ytmeopnlkddflaaa.F Go.Proofs.YtmeopnlkddflaaaW.PrintWords Go.Proofs.YtmeopnlkddflaaaW.PrintLast Go.Proofs.YtmeopnlkddflaaaW.PrintMore
open Go.Proofs.Ytmeopnlkddflaaa.Bits
open Go.Proofs.Ytmeopnlkddflaaa.Mt (sdiff qv elems qD cnt full ins del Mat jj)
set_option linter.unusedSimpArgs false
set_option linter.unusedVariables false
theorem QI : ∀ a : Nat, a < 256 → ∀ e : Nat, e < 8 → a.testBit e = true → del a e + 2 ^ e = a := by decide +kernel
theorem Qx : ∀ a : Nat, a < 256 → ∀ f : Nat, f < 8 → a.testBit f = false → ins a f = a + 2 ^ f := by decide +kernel
theorem Z2 {a e : Nat} (h : a < 256) : del a e < 256 := Nat.lt_of_le_of_lt (Mt.ZR (Mt.QK a e)) h
theorem y5 {B : List Nat} {x : Nat} : ((x : Int) ∈ ints B) ↔ x ∈ B := by
  simp only [ints, List.mem_map]
  constructor
  · rintro ⟨y, hy, e⟩
    have : y = x := by omega
    rw [← this]; exact hy
  · intro h; exact ⟨x, h, rfl⟩
/-- Some element of b can be put for e in a. -/
def vm (B : List Nat) (a b e : Nat) : Bool := (elems (sdiff b a)).any fun f => decide (ins (del a e) f ∈ B)
theorem Zl {B : List Nat} {N a b e : Nat} (hN : N ≤ 8) (hb : b < 2 ^ N) : vm B a b e = (List.range N).any fun f => b.testBit f && (!a.testBit f && decide (ins (del a e) f ∈ B)) := by
  unfold vm
  rw [Bool.eq_iff_iff]
  simp only [List.any_eq_true, qD, List.mem_range, qv, Bool.and_eq_true, Bool.not_eq_true', decide_eq_true_eq]
  constructor
  · rintro ⟨f, ⟨_, h1, h2⟩, h3⟩; exact ⟨f, Mt.yR hb h1, h1, h2, h3⟩
  · rintro ⟨f, h0, h1, h2, h3⟩; exact ⟨f, ⟨by omega, h1, h2⟩, h3⟩
def Q3 (B : List Nat) : Bool := B.all fun a => B.all fun b => (elems (sdiff a b)).all fun e => vm B a b e
def qz (n : Int) (l : List Int) : Bool := jo n l && decide (0 < l.length) && Q3 (l.map Int.toNat)
theorem jt (B : List Nat) : (ints B).map Int.toNat = B := by
  simp only [ints, List.map_map]
  induction B with
  | nil => rfl
  | cons x t ih => simp only [List.map_cons, ih]; rfl
/-- What a matroid holds. -/
theorem vA {n : Int} {l : List Int} (h : qz n l = true) : ∃ (N : Nat) (B : List Nat), n = N ∧ l = ints B ∧ B.Pairwise (· < ·) ∧ Mat N B := by
  unfold qz at h
  simp only [Bool.and_eq_true, decide_eq_true_eq] at h
  obtain ⟨⟨h1, h2⟩, h3⟩ := h
  obtain ⟨N, B, rfl, hN, rfl, hB, hp⟩ := vz h1
  rw [jt] at h3
  refine ⟨N, B, rfl, rfl, hp, ⟨hN, hB, ?_, ?_⟩⟩
  · intro e; rw [e] at h2; simp [ints] at h2
  · intro a ha b hb e he hbe
    have h4 := List.all_eq_true.1 (List.all_eq_true.1 (List.all_eq_true.1 h3 a ha) b hb) e (qD.2 ⟨Mt.yR (n := 8) (jj hN (hB a ha)) he, by rw [qv, he, hbe]; rfl⟩)
    simp only [vm, List.any_eq_true, qD, qv, Bool.and_eq_true, Bool.not_eq_true', decide_eq_true_eq] at h4
    obtain ⟨f, ⟨_, h5, h6⟩, h7⟩ := h4
    exact ⟨f, h5, h6, h7⟩
theorem Zx (a e : Nat) (ha : a < 256) (he : e ≤ 64) : zU.f (a : Int) (e : Int) = some (a.testBit e) := by
  unfold zU.f; rw [q8 (by omega) (by omega), if_pos (by omega), Zz _ _ (by omega) (by omega)]
section
variable {N : Nat} {B : List Nat}
theorem QS (hN : N ≤ 8) (hB : ∀ b ∈ B, b < 2 ^ N) (hl : B.length ≤ 17592186044416) {a b e : Nat} (ha : a < 2 ^ N) (hb : b < 2 ^ N) (he : a.testBit e = true) :
    Ev (fun k => zn.f k (N : Int) (ints B) a b e) (vm B a b e) := by
  have ha8 := jj hN ha
  have hb8 := jj hN hb
  have he8 : e < 8 := Mt.yR (n := 8) ha8 he
  rw [Zl hN hb]
  unfold zn.f
  have h := qH (fun k f => zn.l0 k a b e f N (ints B)) N (fun f r => (b.testBit f && (!a.testBit f && decide (ins (del a e) f ∈ B))) || r) false
    (by simp only [zn.l0, show ¬ ((N : Int) < (N : Int)) by omega, if_false]; exact Ev.now _) fun f hf r hr => by
      simp only [zn.l0, show ((f : Int) < (N : Int)) by omega, if_true, Zx b f hb8 (by omega), Zx a f ha8 (by omega), Option.bind_some, qe (show f < 9223372036854775807 by omega)]
      cases h1 : b.testBit f
      · simp only [Bool.false_eq_true, if_false, Bool.false_and, Bool.false_or]; exact hr
      · cases h2 : a.testBit f
        · have hd := Z2 (e := e) ha8
          have e1 := QI a ha8 e he8 he
          have hdf : (del a e).testBit f = false := by rw [Mt.ZF, h2]; rfl
          have e2 := Qx (del a e) hd f (by omega) hdf
          have ew : wrap64 ((wrap64 ((a : Int) - (shl .i64 1 (IntKind.u64.wrap (e : Int))))) + (shl .i64 1 (IntKind.u64.wrap (f : Int)))) = ((ins (del a e) f : Nat) : Int) := by
            have p1 : 2 ^ e ≤ 2 ^ 8 := Nat.pow_le_pow_right (by decide) (by omega)
            have p2 : 2 ^ f ≤ 2 ^ 8 := Nat.pow_le_pow_right (by decide) (by omega)
            rw [q8 (by omega) (by omega), q8 (n := (f : Int)) (by omega) (by omega), jg e (by omega), jg f (by omega), e2]
            generalize 2 ^ e = x at e1 p1 ⊢
            generalize 2 ^ f = y at p2 ⊢
            rw [qR (n := (a : Int) - (x : Int)) (by omega) (by omega), qR (by omega) (by omega)]
            omega
          simp only [Bool.false_eq_true, if_false, Bool.not_false, Bool.true_and]
          simp only [show (0 : Int) ≤ IntKind.u64.wrap (e : Int) by rw [q8 (by omega) (by omega)]; omega, show (0 : Int) ≤ IntKind.u64.wrap (f : Int) by rw [q8 (by omega) (by omega)]; omega, if_true, ew]
          refine Ev.bind (Qn (ints B) _ (by rw [zK]; exact hl)) ?_
          simp only [y5]
          by_cases hm : ins (del a e) f ∈ B
          · simp only [hm, decide_true, if_true, Bool.true_or]; exact Ev.now _
          · simp only [hm, decide_false, Bool.false_eq_true, if_false, Bool.false_or]; exact hr
        · simp only [if_true, Bool.not_true, Bool.false_and, Bool.and_false, Bool.false_or]; exact hr
  rw [vF, Bool.or_false] at h
  exact h
/-- The failing element of two bases, as1 the reference looks for it: over all places. -/
def ffS (N : Nat) (B : List Nat) : Int × Int × Int × Bool :=
  (List.range B.length).foldr (fun i r => (List.range B.length).foldr (fun j r => (List.range N).foldr (fun e r =>
    if (B.getD i 0).testBit e && (!(B.getD j 0).testBit e && !vm B (B.getD i 0) (B.getD j 0) e) then (((B.getD i 0 : Nat) : Int), ((B.getD j 0 : Nat) : Int), (e : Int), true) else r) r) r) (0, 0, 0, false)
/-- The same, as1 the program looks for it: over the elements of the difference. -/
def ffI (B : List Nat) : Int × Int × Int × Bool :=
  (List.range B.length).foldr (fun i r => (List.range B.length).foldr (fun j r => (List.range (elems (sdiff (B.getD i 0) (B.getD j 0))).length).foldr (fun m r =>
    if !vm B (B.getD i 0) (B.getD j 0) ((elems (sdiff (B.getD i 0) (B.getD j 0))).getD m 0) then (((B.getD i 0 : Nat) : Int), ((B.getD j 0 : Nat) : Int), (((elems (sdiff (B.getD i 0) (B.getD j 0))).getD m 0 : Nat) : Int), true) else r) r) r) (0, 0, 0, false)
theorem qM (i : Nat) (hi : i < B.length) : B.getD i 0 = B[i] := by simp [List.getElem?_eq_getElem hi]
theorem j4 (i : Nat) (hi : i < B.length) : rd (ints B) (i : Int) = ((B.getD i 0 : Nat) : Int) := by rw [ZG B i hi, qM i hi]
theorem jX (hB : ∀ b ∈ B, b < 2 ^ N) (i : Nat) (hi : i < B.length) : B.getD i 0 < 2 ^ N := by rw [qM i hi]; exact hB _ (List.getElem_mem hi)
theorem ZQ (hN : N ≤ 8) (hB : ∀ b ∈ B, b < 2 ^ N) (hl : B.length ≤ 17592186044416) : Ev (fun k => zk.l0 k (N : Int) (ints B) 0) (ffS N B) := by
  refine qH (fun k i => zk.l0 k (N : Int) (ints B) i) B.length _ (0, 0, 0, false) ?_ fun i hi r hr => ?_
  · simp only [zk.l0, zK, show ¬ ((B.length : Int) < (B.length : Int)) by omega, if_false]; exact Ev.now _
  simp only [zk.l0, zK, show ((i : Int) < (B.length : Int)) by omega, show (0 : Int) ≤ (i : Int) by omega, if_true]
  refine qH (fun k j => zk.l1 k (N : Int) (ints B) i j) B.length _ r ?_ fun j hj r hr => ?_
  · simp only [zk.l1, zK, show ¬ ((B.length : Int) < (B.length : Int)) by omega, if_false, qe (show i < 9223372036854775807 by omega)]; exact hr
  simp only [zk.l1, zK, show ((j : Int) < (B.length : Int)) by omega, show (0 : Int) ≤ (j : Int) by omega, if_true]
  have ha := jX hB i hi
  have hb := jX hB j hj
  have ea := j4 i hi
  have eb := j4 j hj
  refine qH (fun k e => zk.l2 k (N : Int) (ints B) i j e) N _ r ?_ fun e he r hr => ?_
  · simp only [zk.l2, show ¬ ((N : Int) < (N : Int)) by omega, if_false, qe (show j < 9223372036854775807 by omega)]; exact hr
  generalize B.getD i 0 = a at ha ea ⊢
  generalize B.getD j 0 = b at hb eb ⊢
  simp only [zk.l2, show ((e : Int) < (N : Int)) by omega, if_true, ea, eb, Zx a e (jj hN ha) (by omega), Zx b e (jj hN hb) (by omega), Option.bind_some, qe (show e < 9223372036854775807 by omega)]
  cases h1 : a.testBit e
  · simp only [Bool.false_eq_true, if_false, Bool.false_and]; exact hr
  · cases h2 : b.testBit e
    · simp only [if_true, Bool.false_eq_true, if_false, Bool.not_false, Bool.true_and]
      refine Ev.bind (QS hN hB hl ha hb h1) ?_
      cases h3 : vm B a b e
      · simp only [Bool.false_eq_true, if_false, Bool.not_false, if_true]; exact Ev.now _
      · simp only [if_true, Bool.not_true, Bool.false_eq_true, if_false]; exact hr
    · simp only [if_true, Bool.not_true, Bool.false_and, Bool.and_false, Bool.false_eq_true, if_false]; exact hr
theorem Zw (Q : Nat → Int → Option Bool) (p : Nat → Bool) : ∀ l : List Nat, (∀ x ∈ l, Ev (fun k => Q k (x : Int)) (p x)) → Ev (fun k => yK (Q k) (ints l)) (l.any p)
  | [], _ => by simp only [ints, List.map_nil, yK, List.any_nil]; exact Ev.now _
  | x :: t, h => by
    simp only [ints, List.map_cons, yK, List.any_cons]
    refine Ev.bind (h x (List.mem_cons_self ..)) ?_
    cases hp : p x
    · simp only [Bool.false_eq_true, if_false, Bool.false_or]; exact Zw Q p t fun y hy => h y (List.mem_cons_of_mem _ hy)
    · simp only [if_true, Bool.true_or]; exact Ev.now _
theorem yj {s : Nat} (h : s < 256) : yd (s : Int) = elems s := by unfold yd; rw [if_pos (by simp [isAny]; omega)]; rfl
theorem y1 {a b : Nat} (h : a < 256) : sdiff a b < 256 := Zb (n := 8) h
theorem ZT (hN : N ≤ 8) (hB : ∀ b ∈ B, b < 2 ^ N) (hl : B.length ≤ 17592186044416) : Ev (fun k => zh.l0 k (ints B) 0) (ffI B) := by
  refine qH (fun k i => zh.l0 k (ints B) i) B.length _ (0, 0, 0, false) ?_ fun i hi r hr => ?_
  · simp only [zh.l0, zK, show ¬ ((B.length : Int) < (B.length : Int)) by omega, if_false]; exact Ev.now _
  simp only [zh.l0, zK, show ((i : Int) < (B.length : Int)) by omega, show (0 : Int) ≤ (i : Int) by omega, if_true]
  have ha := jX hB i hi
  have ea := j4 i hi
  refine qH (fun k j => zh.l1 k (ints B) i j) B.length _ r ?_ fun j hj r hr => ?_
  · simp only [zh.l1, zK, show ¬ ((B.length : Int) < (B.length : Int)) by omega, if_false, qe (show i < 9223372036854775807 by omega)]; exact hr
  have hb := jX hB j hj
  have eb := j4 j hj
  generalize B.getD i 0 = a at ha ea ⊢
  generalize B.getD j 0 = b at hb eb ⊢
  have ha8 := jj hN ha
  have hb8 := jj hN hb
  simp only [zh.l1, zK, show ((j : Int) < (B.length : Int)) by omega, show (0 : Int) ≤ (j : Int) by omega, if_true, ea, eb, jT a b (by omega) (by omega)]
  refine Ev.bind (vr _) ?_
  rw [yj (y1 ha8)]
  have hes : ∀ e ∈ elems (sdiff a b), e < 8 ∧ a.testBit e = true := fun e he => by
    have := qD.1 he
    rw [qv] at this; simp at this; exact ⟨this.1, this.2.1⟩
  have hlen := vp (sdiff a b)
  generalize elems (sdiff a b) = es at hes hlen ⊢
  refine qH (fun k m => zh.l2 k (ints B) i j (ints es) m) es.length _ r ?_ fun m hm r hr => ?_
  · simp only [zh.l2, zK, show ¬ ((es.length : Int) < (es.length : Int)) by omega, if_false, qe (show j < 9223372036854775807 by omega)]; exact hr
  have he := hes es[m] (List.getElem_mem hm)
  have ee := ZG es m hm
  rw [show es.getD m 0 = es[m] by simp [List.getElem?_eq_getElem hm]]
  generalize es[m] = e at he ee ⊢
  simp only [zh.l2, zK, show ((m : Int) < (es.length : Int)) by omega, show (0 : Int) ≤ (m : Int) by omega, if_true, ea, eb, ee, jT b a (by omega) (by omega), qe (show m < 9223372036854775807 by omega)]
  refine Ev.bind (vr _) ?_
  rw [yj (y1 hb8)]
  have hlf := vp (sdiff b a)
  simp only [zK, show (elems (sdiff b a)).length ≤ 17592186044416 by omega, if_true]
  refine Ev.bind (Zw (fun k => zh.q k (ints B) a e) (fun f => decide (ins (del a e) f ∈ B)) (elems (sdiff b a)) fun f hf => ?_) ?_
  · have hf8 := (qD.1 hf).1
    have p1 : 2 ^ e ≤ 2 ^ 8 := Nat.pow_le_pow_right (by decide) (by omega)
    have p2 : 2 ^ f ≤ 2 ^ 8 := Nat.pow_le_pow_right (by decide) (by omega)
    have hd := Z2 (e := e) ha8
    simp only [zh.q, show (0 : Int) ≤ (e : Int) by omega, show (0 : Int) ≤ (f : Int) by omega, if_true, jg e (by omega), jg f (by omega)]
    rw [jT a (2 ^ e) (by omega) (by omega), QF (sdiff a (2 ^ e)) (2 ^ f) (by have : sdiff a (2 ^ e) < 256 := hd; omega) (by omega)]
    have hh := Z8 (ints B) ((sdiff a (2 ^ e) ||| 2 ^ f : Nat) : Int) (by rw [zK]; exact hl)
    rw [show decide (((sdiff a (2 ^ e) ||| 2 ^ f : Nat) : Int) ∈ ints B) = decide (ins (del a e) f ∈ B) by rw [decide_eq_decide]; exact y5] at hh
    exact hh
  show Ev _ (if (!vm B a b e) = true then _ else r)
  rw [show ((elems (sdiff b a)).any fun f => decide (ins (del a e) f ∈ B)) = vm B a b e from rfl]
  cases h3 : vm B a b e
  · simp only [Bool.false_eq_true, if_false, Bool.not_false, if_true]; exact Ev.now _
  · simp only [if_true, Bool.not_true, Bool.false_eq_true, if_false]; exact hr
theorem jZ {α ρ : Type} (c : ρ → Bool) (F : α → ρ → ρ) (P : α → Bool) (h : ∀ x r, c (F x r) = (P x || c r)) (r : ρ) : ∀ l : List α, c (l.foldr F r) = (l.any P || c r)
  | [] => by simp
  | x :: t => by rw [List.foldr_cons, h, jZ c F P h r t, List.any_cons, Bool.or_assoc]
theorem Zc {α ρ : Type} (c : ρ → Bool) (p : α → Bool) (g : α → ρ) (hg : ∀ x, c (g x) = true) (r : ρ) (l : List α) : c (l.foldr (fun x r => if p x = true then g x else r) r) = (l.any p || c r) :=
  jZ c _ p (fun x r => by cases h : p x <;> simp [h, hg]) r l
theorem QD (hN : N ≤ 8) (hB : ∀ b ∈ B, b < 2 ^ N) : (ffS N B).2.2.2 = !Q3 B := by
  unfold ffS
  rw [jZ (fun r : Int × Int × Int × Bool => r.2.2.2) _ (fun i => (List.range B.length).any fun j => (List.range N).any fun e => (B.getD i 0).testBit e && (!(B.getD j 0).testBit e && !vm B (B.getD i 0) (B.getD j 0) e)) (fun i r => by
    rw [jZ (fun r : Int × Int × Int × Bool => r.2.2.2) _ (fun j => (List.range N).any fun e => (B.getD i 0).testBit e && (!(B.getD j 0).testBit e && !vm B (B.getD i 0) (B.getD j 0) e)) (fun j r => by
      exact Zc (fun r : Int × Int × Int × Bool => r.2.2.2) _ _ (fun _ => rfl) r _)])]
  rw [Bool.or_false, Bool.eq_iff_iff]
  simp only [List.any_eq_true, List.mem_range, Bool.and_eq_true, Bool.not_eq_true']
  constructor
  · rintro ⟨i, hi, j, hj, e, he, h1, h2, h3⟩
    rw [qM i hi] at h1 h3
    rw [qM j hj] at h2 h3
    rw [Bool.eq_false_iff]
    intro hm
    have := List.all_eq_true.1 (List.all_eq_true.1 (List.all_eq_true.1 hm B[i] (List.getElem_mem hi)) B[j] (List.getElem_mem hj)) e (qD.2 ⟨by omega, by rw [qv, h1, h2]; rfl⟩)
    rw [h3] at this; cases this
  · intro hm
    obtain ⟨a, ha, h⟩ := List.all_eq_false.1 hm
    obtain ⟨b, hb, h⟩ := List.all_eq_false.1 (Bool.eq_false_iff.2 h)
    obtain ⟨e, he, h⟩ := List.all_eq_false.1 (Bool.eq_false_iff.2 h)
    obtain ⟨i, hi, rfl⟩ := List.getElem_of_mem ha
    obtain ⟨j, hj, rfl⟩ := List.getElem_of_mem hb
    have hd := (qD.1 he).2
    rw [qv] at hd
    simp only [Bool.and_eq_true, Bool.not_eq_true'] at hd
    refine ⟨i, hi, j, hj, e, Mt.yR (hB _ ha) hd.1, ?_⟩
    rw [qM i hi, qM j hj]
    exact ⟨hd.1, hd.2, Bool.eq_false_iff.2 h⟩
theorem Qs : (ffI B).2.2.2 = !Q3 B := by
  unfold ffI
  rw [jZ (fun r : Int × Int × Int × Bool => r.2.2.2) _ (fun i => (List.range B.length).any fun j => (List.range (elems (sdiff (B.getD i 0) (B.getD j 0))).length).any fun m => !vm B (B.getD i 0) (B.getD j 0) ((elems (sdiff (B.getD i 0) (B.getD j 0))).getD m 0)) (fun i r => by
    rw [jZ (fun r : Int × Int × Int × Bool => r.2.2.2) _ (fun j => (List.range (elems (sdiff (B.getD i 0) (B.getD j 0))).length).any fun m => !vm B (B.getD i 0) (B.getD j 0) ((elems (sdiff (B.getD i 0) (B.getD j 0))).getD m 0)) (fun j r => by
      exact Zc (fun r : Int × Int × Int × Bool => r.2.2.2) _ _ (fun _ => rfl) r _)])]
  rw [Bool.or_false, Bool.eq_iff_iff]
  simp only [List.any_eq_true, List.mem_range, Bool.not_eq_true']
  constructor
  · rintro ⟨i, hi, j, hj, m, hm, h3⟩
    rw [qM i hi, qM j hj] at h3 hm
    rw [Bool.eq_false_iff]
    intro hmm
    rw [show (elems (sdiff B[i] B[j])).getD m 0 = (elems (sdiff B[i] B[j]))[m] by simp [List.getElem?_eq_getElem hm]] at h3
    have := List.all_eq_true.1 (List.all_eq_true.1 (List.all_eq_true.1 hmm B[i] (List.getElem_mem hi)) B[j] (List.getElem_mem hj)) _ (List.getElem_mem hm)
    rw [h3] at this; cases this
  · intro hm
    obtain ⟨a, ha, h⟩ := List.all_eq_false.1 hm
    obtain ⟨b, hb, h⟩ := List.all_eq_false.1 (Bool.eq_false_iff.2 h)
    obtain ⟨e, he, h⟩ := List.all_eq_false.1 (Bool.eq_false_iff.2 h)
    obtain ⟨i, hi, rfl⟩ := List.getElem_of_mem ha
    obtain ⟨j, hj, rfl⟩ := List.getElem_of_mem hb
    obtain ⟨m, hm, rfl⟩ := List.getElem_of_mem he
    refine ⟨i, hi, j, hj, m, ?_, ?_⟩
    · rw [qM i hi, qM j hj]; exact hm
    · rw [qM i hi, qM j hj, show (elems (sdiff B[i] B[j])).getD m 0 = (elems (sdiff B[i] B[j]))[m] by simp [List.getElem?_eq_getElem hm]]
      exact Bool.eq_false_iff.2 h
end
theorem yS (n : Int) (l : List Int) (hl : l.length ≤ 17592186044416) : Ev (fun k => qo.f k n l) (qz n l) := by
  unfold qo.f zk.f qz
  have hf := Zi n l hl
  cases h : jo n l
  · rw [h] at hf
    refine Ev.bind (Ev.bind hf (by simp only [Bool.false_eq_true, if_false]; exact Ev.now _)) (Ev.bind hf ?_)
    simp only [Bool.false_eq_true, if_false, Bool.false_and]; exact Ev.now _
  · rw [h] at hf
    obtain ⟨N, B, rfl, hN, rfl, hB, hp⟩ := vz h
    rw [zK] at hl
    refine Ev.bind (Ev.bind hf (by simp only [if_true]; exact ZQ hN hB hl)) (Ev.bind hf ?_)
    simp only [if_true, QD hN hB, Bool.not_not, jt, Bool.true_and, zK]
    by_cases h0 : 0 < B.length
    · simp only [show ((B.length : Int) > 0) by omega, if_true, h0, decide_true, Bool.true_and]; exact Ev.now _
    · simp only [show ¬ ((B.length : Int) > 0) by omega, if_false, h0, decide_false, Bool.false_and]; exact Ev.now _
theorem vH (n : Int) (l : List Int) (hl : l.length ≤ 17592186044416) : Ev (fun k => zZ.f k n l) (qz n l) := by
  unfold zZ.f zh.f qz
  have hf := Zp n l hl
  cases h : jo n l
  · rw [h] at hf
    refine Ev.bind (Ev.bind hf (by simp only [Bool.false_eq_true, if_false]; exact Ev.now _)) (Ev.bind hf ?_)
    simp only [Bool.false_eq_true, if_false, Bool.false_and]; exact Ev.now _
  · rw [h] at hf
    obtain ⟨N, B, rfl, hN, rfl, hB, hp⟩ := vz h
    rw [zK] at hl
    refine Ev.bind (Ev.bind hf (by simp only [if_true]; exact ZT hN hB hl)) (Ev.bind hf ?_)
    simp only [if_true, Qs, Bool.not_not, jt, Bool.true_and, zK]
    by_cases h0 : 0 < B.length
    · simp only [show ((B.length : Int) > 0) by omega, if_true, h0, decide_true, Bool.true_and]; exact Ev.now _
    · simp only [show ¬ ((B.length : Int) > 0) by omega, if_false, h0, decide_false, Bool.false_and]; exact Ev.now _
end Go.Proofs.Ytmeopnlkddflaaa.L
end
section
namespace Go.Proofs.Ytmeopnlkddflaaa.L
open Go.RowKit Go.Proofs.Ytmeopnlkddflaaa.F Go.Proofs.YtmeopnlkddflaaaW.PrintWords Go.Proofs.YtmeopnlkddflaaaW.PrintLast Go.Proofs.YtmeopnlkddflaaaW.PrintMore
open Go.Proofs.Ytmeopnlkddflaaa.Bits
open Go.Proofs.Ytmeopnlkddflaaa.Mt (sdiff qv elems qD cnt Zo full ins del Mat jj rk)
set_option linter.unusedSimpArgs false
set_option linter.unusedVariables false
/-- The count, halving: a small number's bits. -/
theorem Z0 : ∀ s : Nat, s < 256 → cnt s = s % 2 + cnt (s / 2) := by decide +kernel
theorem yf : ∀ (d s : Nat) (x : Int), s < 2 ^ d → d ≤ 8 → 0 ≤ x → x + d ≤ 100 → Ev (fun k => zF.l0 k (s : Int) x) (x + cnt s)
  | 0, s, x, hs, _, h0, h1 => by
    have : s = 0 := by simp at hs; exact hs
    subst this
    refine Ev.succ ?_
    simp only [zF.l0, show ¬ (((0 : Nat) : Int) > 0) by omega, if_false]
    exact Ev.some (by rw [Mt.yX]; omega)
  | d + 1, s, x, hs, hd, h0, h1 => by
    refine Ev.succ ?_
    by_cases hz : s = 0
    · subst hz
      simp only [zF.l0, show ¬ (((0 : Nat) : Int) > 0) by omega, if_false]
      exact Ev.some (by rw [Mt.yX]; omega)
    · have h256 : s < 256 := Nat.lt_of_lt_of_le hs (Nat.pow_le_pow_right (n := 2) (by decide) hd)
      have hb := Z0 s h256
      have e1 : Go.bits .and .i64 (s : Int) 1 = ((s % 2 : Nat) : Int) := by
        have := vt s 1 (by omega) (by omega)
        rw [show ((1 : Nat) : Int) = 1 from rfl] at this
        rw [this, Nat.and_one_is_mod]
      have e2 : (s : Int) / 2 = ((s / 2 : Nat) : Int) := by omega
      have hlt : s / 2 < 2 ^ d := by rw [Nat.pow_succ] at hs; omega
      simp only [zF.l0, show ((s : Int) > 0) by omega, if_true, e1, e2]
      rw [qR (by omega) (by omega)]
      have ih := yf d (s / 2) (x + ((s % 2 : Nat) : Int)) hlt (by omega) (by omega) (by omega)
      rw [show x + (cnt s : Int) = x + ((s % 2 : Nat) : Int) + (cnt (s / 2) : Int) by rw [hb]; omega]
      exact ih
theorem yz (s : Int) : Ev (fun k => zF.f k s) (ZZ s : Int) := by
  unfold zF.f ZZ isAny
  simp only [ZD, Option.bind_some, decide_eq_true_eq]
  by_cases h : 0 ≤ s ∧ s < 256
  · obtain ⟨a, rfl⟩ := Int.eq_ofNat_of_zero_le h.1
    simp only [show (0 : Int) ≤ 8 ∧ (8 : Int) ≤ 8 ∧ (0 : Int) ≤ (a : Int) ∧ (a : Int) < 2 ^ (8 : Int).toNat from ⟨by omega, by omega, by omega, by simpa using h.2⟩, and_self, if_true, h, decide_true, Int.toNat_natCast]
    have := yf 8 a 0 (by omega) (by omega) (by omega) (by omega)
    simpa using this
  · have h' : ¬ (0 ≤ (8 : Int) ∧ (8 : Int) ≤ 8 ∧ 0 ≤ s ∧ s < 2 ^ (8 : Int).toNat) := fun hh => h ⟨hh.2.2.1, by simpa using hh.2.2.2⟩
    first
      | (simp only [if_neg h', if_neg h, decide_eq_false h, Bool.false_eq_true, if_false]; exact Ev.now _)
      | (simp only [h, decide_false, Bool.false_eq_true, if_false]; exact Ev.now _)
theorem vu {s : Nat} (h : s < 256) : ZZ (s : Int) = cnt s := by unfold ZZ; rw [if_pos (by simp [isAny]; omega)]; rfl
theorem Q6 (a b : Int) : qS.f a b = some (max a b) := by
  unfold qS.f
  by_cases h : a > b
  · rw [if_pos h, show max a b = a by omega]
  · rw [if_neg h, show max a b = b by omega]
theorem yF (B : List Nat) (s : Nat) : ∀ n, n ≤ B.length → ((List.range n).foldl (fun (m : Int) i => max m ((cnt (s &&& B.getD i 0) : Nat) : Int)) 0) = ((rk (B.take n) s : Nat) : Int)
  | 0, _ => by simp [rk]
  | n + 1, h => by
    rw [List.range_succ, List.foldl_append, yF B s n (by omega), List.take_succ_eq_append_getElem (by omega)]
    simp only [List.foldl_cons, List.foldl_nil, rk, List.foldl_append]
    rw [show B.getD n 0 = B[n] by simp [List.getElem?_eq_getElem (show n < B.length by omega)]]
    omega
section
variable {N : Nat} {B : List Nat}
theorem QW (hN : N ≤ 8) (hB : ∀ b ∈ B, b < 2 ^ N) (hl : B.length ≤ 17592186044416) {s : Nat} (hs : s < 256) (n : Int) : Ev (fun k => z6.f k n (ints B) s) (rk B s : Int) := by
  unfold z6.f
  have key := jr (fun k (m : Int) i => z6.l0 k s m i n (ints B)) B.length (fun m i => max m ((cnt (s &&& B.getD i 0) : Nat) : Int)) (fun _ _ => True) id
    (fun m _ => by simp only [z6.l0, zK, show ¬ ((B.length : Int) < (B.length : Int)) by omega, if_false]; exact Ev.now _)
    (fun i m hi _ => ⟨trivial, fun r hr => by
      have hb := jX hB i hi
      have eb := j4 i hi
      generalize B.getD i 0 = b at hb eb hr
      have hb8 := jj hN hb
      simp only [z6.l0, zK, show ((i : Int) < (B.length : Int)) by omega, show (0 : Int) ≤ (i : Int) by omega, if_true, eb, vt b s (by omega) (by omega), qe (show i < 9223372036854775807 by omega)]
      refine Ev.bind (yz _) ?_
      rw [vu (Nat.lt_of_le_of_lt Nat.and_le_left hb8), Nat.and_comm b s]
      simp only [Q6, Option.bind_some]
      exact hr⟩) 0 trivial
  have e := yF B s B.length (Nat.le_refl _)
  rw [List.take_length] at e
  rw [e] at key
  exact key
theorem QP (hN : N ≤ 8) (hB : ∀ b ∈ B, b < 2 ^ N) (hl : B.length ≤ 17592186044416) {s : Nat} (hs : s < 256) (n : Int) : Ev (fun k => z1.f k n (ints B) s) (rk B s : Int) := by
  unfold z1.f
  have key := jr (fun k (m : Int) i => z1.l0 k s m (ints B) ((ints B).length : Int) i) B.length (fun m i => max m ((cnt (s &&& B.getD i 0) : Nat) : Int)) (fun _ _ => True) id
    (fun m _ => by simp only [z1.l0, zK, show ¬ ((B.length : Int) < (B.length : Int)) by omega, if_false]; exact Ev.now _)
    (fun i m hi _ => ⟨trivial, fun r hr => by
      have hb := jX hB i hi
      have eb := j4 i hi
      generalize B.getD i 0 = b at hb eb hr
      have hb8 := jj hN hb
      simp only [z1.l0, zK, show ((i : Int) < (B.length : Int)) by omega, show (0 : Int) ≤ (i : Int) by omega, if_true, eb, vt s b (by omega) (by omega), qe (show i < 9223372036854775807 by omega), yp, Option.bind_some]
      rw [vu (Nat.lt_of_le_of_lt Nat.and_le_left hs)]
      rw [show mx m ((cnt (s &&& b) : Nat) : Int) = max m ((cnt (s &&& b) : Nat) : Int) by unfold mx; omega]
      simpa [zK] using hr⟩) 0 trivial
  have e := yF B s B.length (Nat.le_refl _)
  rw [List.take_length] at e
  rw [e] at key
  simpa [zK] using key
end
theorem jE {N : Nat} (hN : N ≤ 8) : zX.f (N : Int) = some ((full N : Nat) : Int) := by
  unfold zX.f full
  have hp : (2 : Nat) ^ N ≤ 2 ^ 8 := Nat.pow_le_pow_right (by decide) hN
  have h0 : 0 < (2 : Nat) ^ N := Nat.two_pow_pos N
  simp only [vn, Option.bind_some, decide_eq_true_eq, show (0 : Int) ≤ (N : Int) ∧ (N : Int) ≤ 8 from ⟨by omega, by omega⟩, and_self, if_true, show (0 : Int) ≤ (N : Int) by omega, jg N (by omega)]
  generalize 2 ^ N = x at hp h0
  rw [qR (by omega) (by omega)]; simp; omega
theorem jF {N : Nat} (hN : N ≤ 8) : zz.f (N : Int) = some ((full N : Nat) : Int) := by
  unfold zz.f full
  have hp : (2 : Nat) ^ N ≤ 2 ^ 8 := Nat.pow_le_pow_right (by decide) hN
  have h0 : 0 < (2 : Nat) ^ N := Nat.two_pow_pos N
  simp only [QJ, Option.bind_some, decide_eq_true_eq, show (0 : Int) ≤ (N : Int) ∧ (N : Int) ≤ 8 from ⟨by omega, by omega⟩, and_self, if_true]
  rw [q8 (by omega) (by omega), jg N (by omega), if_pos (by omega)]
  generalize 2 ^ N = x at hp h0
  rw [qR (by omega) (by omega)]; simp; omega
theorem jw {N s : Nat} : ((s : Int) ≤ ((full N : Nat) : Int)) ↔ s < 2 ^ N := by
  have h0 : 0 < (2 : Nat) ^ N := Nat.two_pow_pos N
  unfold full
  generalize 2 ^ N = x at h0
  omega
end Go.Proofs.Ytmeopnlkddflaaa.L
end
section
namespace Go.Proofs.Ytmeopnlkddflaaa.L
open Go.RowKit Go.Proofs.Ytmeopnlkddflaaa.F Go.Proofs.YtmeopnlkddflaaaW.PrintWords Go.Proofs.YtmeopnlkddflaaaW.PrintLast Go.Proofs.YtmeopnlkddflaaaW.PrintMore
open Go.Proofs.Ytmeopnlkddflaaa.Bits
open Go.Proofs.Ytmeopnlkddflaaa.Mt (sdiff qv elems qD cnt Zo full ins del Mat jj rk)
set_option linter.unusedSimpArgs false
set_option linter.unusedVariables false
def jb (N : Nat) (B : List Nat) (n : Nat) : List Int := (List.range n).map fun s => ((rk B s : Nat) : Int)
def je (n : Int) (l : List Int) : List Int := if qz n l = true then jb n.toNat (l.map Int.toNat) (2 ^ n.toNat) else []
theorem j6 (n : Int) (l : List Int) : (je n l).length ≤ 17592186044416 := by
  unfold je
  split
  · rename_i h
    obtain ⟨N, B, rfl, rfl, hp, M⟩ := vA h
    have hp : (2 : Nat) ^ N ≤ 2 ^ 8 := Nat.pow_le_pow_right (by decide) M.size
    simp only [jb, List.length_map, List.length_range, Int.toNat_natCast]; omega
  · simp
section
variable {N : Nat} {B : List Nat}
theorem QC (M : Mat N B) (hl : B.length ≤ 17592186044416) : Ev (fun k => zw.l0 k [] 0 N (ints B)) (jb N B (2 ^ N)) := by
  have hp : (2 : Nat) ^ N ≤ 2 ^ 8 := Nat.pow_le_pow_right (by decide) M.size
  have key := j9 (fun k acc s => zw.l0 k acc s N (ints B)) (2 ^ N) (fun acc s => acc ++ [((rk B s : Nat) : Int)]) (fun s acc => acc = jb N B s)
    (fun s acc hs ha => ⟨by rw [ha]; simp [jb, List.range_succ], fun r hr => by
      have hlen : acc.length < 17592186044416 := by rw [ha]; simp only [jb, List.length_map, List.length_range]; omega
      simp only [zw.l0, jF M.size, Option.bind_some, jw.2 hs, if_true]
      refine Ev.bind (QW M.size M.lt hl (by omega) _) ?_
      simp only [hlen, if_true, qe (show s < 9223372036854775807 by omega)]
      exact hr⟩) [] (by simp [jb])
  refine key.2 _ (Ev.succ ?_)
  rw [key.1]
  simp only [zw.l0, jF M.size, Option.bind_some, if_neg (fun h => Nat.lt_irrefl _ (jw.1 h))]
  exact Ev.now _
theorem Qu (M : Mat N B) (hl : B.length ≤ 17592186044416) : Ev (fun k => zu.l0 k [] 0 N (ints B)) (jb N B (2 ^ N)) := by
  have hp : (2 : Nat) ^ N ≤ 2 ^ 8 := Nat.pow_le_pow_right (by decide) M.size
  have key := j9 (fun k acc s => zu.l0 k acc s N (ints B)) (2 ^ N) (fun acc s => acc ++ [((rk B s : Nat) : Int)]) (fun s acc => acc = jb N B s)
    (fun s acc hs ha => ⟨by rw [ha]; simp [jb, List.range_succ], fun r hr => by
      have hlen : acc.length < 17592186044416 := by rw [ha]; simp only [jb, List.length_map, List.length_range]; omega
      simp only [zu.l0, jE M.size, Option.bind_some, jw.2 hs, if_true]
      refine Ev.bind (QP M.size M.lt hl (by omega) _) ?_
      simp only [hlen, if_true, qe (show s < 9223372036854775807 by omega)]
      exact hr⟩) [] (by simp [jb])
  refine key.2 _ (Ev.succ ?_)
  rw [key.1]
  simp only [zu.l0, jE M.size, Option.bind_some, if_neg (fun h => Nat.lt_irrefl _ (jw.1 h))]
  exact Ev.now _
end
theorem y6 (n : Int) (l : List Int) (hl : l.length ≤ 17592186044416) : Ev (fun k => zw.f k n l) (je n l) := by
  unfold zw.f je
  simp only [Option.bind_some]
  refine Ev.bind (yS n l hl) ?_
  cases h : qz n l
  · simp only [Bool.false_eq_true, if_false]; exact Ev.now _
  obtain ⟨N, B, rfl, rfl, hp, M⟩ := vA h
  rw [zK] at hl
  simp only [if_true, jt, Int.toNat_natCast]
  exact QC M hl
theorem y3 (n : Int) (l : List Int) (hl : l.length ≤ 17592186044416) : Ev (fun k => zu.f k n l) (je n l) := by
  unfold zu.f je
  refine Ev.bind (vH n l hl) ?_
  cases h : qz n l
  · simp only [Bool.false_eq_true, if_false]; exact Ev.now _
  obtain ⟨N, B, rfl, rfl, hp, M⟩ := vA h
  rw [zK] at hl
  simp only [if_true, jt, Int.toNat_natCast]
  exact Qu M hl
end Go.Proofs.Ytmeopnlkddflaaa.L
end
section
namespace Go.Proofs.Ytmeopnlkddflaaa.L
open Go.RowKit Go.Proofs.Ytmeopnlkddflaaa.F Go.Proofs.YtmeopnlkddflaaaW.PrintWords Go.Proofs.YtmeopnlkddflaaaW.PrintLast Go.Proofs.YtmeopnlkddflaaaW.PrintMore
open Go.Proofs.Ytmeopnlkddflaaa.Bits
open Go.Proofs.Ytmeopnlkddflaaa.Mt (full)
set_option linter.unusedSimpArgs false
set_option linter.unusedVariables false
/-- setsOf over a predicate that says p of all sets of N elements. -/
theorem vD (q : Int → Option Bool) (p : Nat → Bool) {N : Nat} (hN : N ≤ 8) (hq : ∀ s : Nat, s < 2 ^ N → q (s : Int) = some (p s)) :
    ∀ (d j fuel : Nat) (out : List Int), j + d = 2 ^ N → d < fuel → out.length ≤ j → jA q fuel (N : Int) out (j : Int) = some (out ++ ints ((List.range' j d).filter p))
  | 0, j, fuel + 1, out, hd, _, ho => by
    have hn : ¬ ((j : Int) ≤ ((full N : Nat) : Int)) := fun h => by have := jw.1 h; omega
    simp only [jA, jE hN, Option.bind_some, if_neg hn]
    simp [ints]
  | d + 1, j, fuel + 1, out, hd, hf, ho => by
    have hp : (2 : Nat) ^ N ≤ 2 ^ 8 := Nat.pow_le_pow_right (by decide) hN
    have hj : j < 2 ^ N := by omega
    simp only [jA, jE hN, Option.bind_some, jw.2 hj, if_true, hq j hj, qe (show j < 9223372036854775807 by omega)]
    rw [List.range'_succ, List.filter_cons]
    cases h : p j
    · simp only [Bool.false_eq_true, if_false]
      exact vD q p hN hq d (j + 1) fuel out (by omega) (by omega) (by omega)
    · simp only [if_true, show out.length < 17592186044416 by omega]
      rw [vD q p hN hq d (j + 1) fuel (out ++ [(j : Int)]) (by omega) (by omega) (by simp; omega)]
      simp [ints]
theorem Z7 (Q : Nat → Int → Option Bool) (p : Nat → Bool) : ∀ m : Nat, (∀ s : Nat, s < m → Ev (fun k => Q k (s : Int)) (p s)) → ∃ K, ∀ k, K ≤ k → ∀ s : Nat, s < m → Q k (s : Int) = some (p s)
  | 0, _ => ⟨0, fun _ _ s hs => absurd hs (Nat.not_lt_zero s)⟩
  | m + 1, h => by
    obtain ⟨K, hK⟩ := Z7 Q p m fun s hs => h s (by omega)
    obtain ⟨K', hK'⟩ := h m (by omega)
    refine ⟨max K K', fun k hk s hs => ?_⟩
    by_cases e : s = m
    · subst e; exact hK' k (by omega)
    · exact hK k (by omega) s (by omega)
theorem Qk (Q : Nat → Int → Option Bool) (p : Nat → Bool) {N : Nat} (hN : N ≤ 8) (h : ∀ s : Nat, s < 2 ^ N → Ev (fun k => Q k (s : Int)) (p s)) : Ev (fun k => jA (Q k) k (N : Int) [] 0) (ints ((List.range (2 ^ N)).filter p)) := by
  obtain ⟨K, hK⟩ := Z7 Q p (2 ^ N) h
  refine ⟨max K (2 ^ N + 1), fun k hk => ?_⟩
  have := vD (Q k) p hN (hK k (by omega)) (2 ^ N) 0 k [] (by omega) (by omega) (by simp)
  rw [List.range_eq_range']
  simpa using this
end Go.Proofs.Ytmeopnlkddflaaa.L
end
section
namespace Go.Proofs.Ytmeopnlkddflaaa.L
open Go.RowKit Go.Proofs.Ytmeopnlkddflaaa.F Go.Proofs.YtmeopnlkddflaaaW.PrintWords Go.Proofs.YtmeopnlkddflaaaW.PrintLast Go.Proofs.YtmeopnlkddflaaaW.PrintMore
open Go.Proofs.Ytmeopnlkddflaaa.Bits

theorem jP (l l' : List Int) (h : l.length = l'.length) : (List.range l.length).all (fun i => decide (l.getD i 0 = l'.getD i 0)) = decide (l = l') := by
  rw [Bool.eq_iff_iff, List.all_eq_true, decide_eq_true_iff]
  constructor
  · intro hh
    apply List.ext_getElem h
    intro i h1 h2
    have := hh i (by simpa using h1)
    simpa [List.getElem?_eq_getElem h1, List.getElem?_eq_getElem h2] using this
  · rintro rfl i _
    simp

theorem Qh (l l' : List Int) (h : l.length ≤ 17592186044416) : Ev (fun k => zY.f k l l') (decide (l = l')) := by
  unfold zY.f
  by_cases e : l.length = l'.length
  · simp only [show ((l.length : Int) = (l'.length : Int)) by omega, if_true]
    rw [← jP l l' e]
    refine vy _ _ _ (fun k => by simp only [zY.l0, show ¬ ((l.length : Int) < (l.length : Int)) by omega, if_false]) ?_
    intro i hi k
    simp only [zY.l0, show ((i : Int) < (l.length : Int)) by omega, show ((i : Int) < (l'.length : Int)) by omega, show (0 : Int) ≤ (i : Int) by omega, if_true, qN, qe (show i < 9223372036854775807 by omega), decide_eq_true_eq]
  · simp only [show ¬ ((l.length : Int) = (l'.length : Int)) by omega, if_false]
    rw [show decide (l = l') = false by simp; rintro rfl; exact e rfl]
    exact Ev.now _

theorem yt (l : List Int) : ∀ n, n ≤ l.length → (List.range n).foldl (fun a i => a.set i (l.getD i 0)) (List.replicate l.length 0) = l.take n ++ List.replicate (l.length - n) 0
  | 0, _ => by simp
  | n + 1, h => by
    rw [List.range_succ, List.foldl_append, yt l n (by omega)]
    simp only [List.foldl_cons, List.foldl_nil]
    obtain ⟨m, hm⟩ : ∃ m, l.length - n = m + 1 := ⟨l.length - n - 1, by omega⟩
    rw [hm, List.replicate_succ, List.set_append_right _ _ (by simp; omega)]
    have : n - (List.take n l).length = 0 := by simp; omega
    rw [this, List.set_cons_zero, show l.length - (n + 1) = m by omega]
    have hg : l.getD n 0 = l[n] := by simp [List.getElem?_eq_getElem (show n < l.length by omega)]
    rw [List.take_succ_eq_append_getElem (by omega), List.append_assoc, List.singleton_append, hg]

theorem yJ (l : List Int) (h : l.length ≤ 17592186044416) : Ev (fun k => zI.f k l) l := by
  unfold zI.f
  simp only [show (0 : Int) ≤ (l.length : Int) by omega, Int.toNat_natCast, show l.length ≤ 35184372088832 by omega, if_true]
  have key := jr (fun k s i => zI.l0 k l s i) l.length (fun a i => a.set i (l.getD i 0)) (fun _ s => s.length = l.length) id
    (fun s hs => by
      simp only [zI.l0, show ¬ ((l.length : Int) < (l.length : Int)) by omega, if_false]
      exact Ev.now _)
    (fun i s hi hs => ⟨by simp [hs], fun r hr => by
      simp only [zI.l0, show ((i : Int) < (l.length : Int)) by omega, show ((i : Int) < (s.length : Int)) by omega, show (0 : Int) ≤ (i : Int) by omega, if_true, Int.toNat_natCast, qN, qe (show i < 9223372036854775807 by omega)]
      exact hr⟩) (List.replicate l.length 0) (by simp)
  rw [yt l l.length (Nat.le_refl _)] at key
  simpa using key
end Go.Proofs.Ytmeopnlkddflaaa.L
end
section
namespace Go.Proofs.Ytmeopnlkddflaaa.L
open Go.RowKit Go.Proofs.Ytmeopnlkddflaaa.F Go.Proofs.YtmeopnlkddflaaaW.PrintWords Go.Proofs.YtmeopnlkddflaaaW.PrintLast Go.Proofs.YtmeopnlkddflaaaW.PrintMore
open Go.Proofs.Ytmeopnlkddflaaa.Bits
theorem QR (l l' : List Int) (h : l.length ≤ 17592186044416) : Ev (fun k => zV.f k l l') (decide (l = l')) := by
  unfold zV.f
  by_cases e : l.length = l'.length
  · simp only [show ((l.length : Int) = (l'.length : Int)) by omega, if_true]
    rw [← jP l l' e]
    refine vy _ _ _ (fun k => by simp only [zV.l0, show ¬ ((l.length : Int) < (l.length : Int)) by omega, if_false]) ?_
    intro i hi k
    simp only [zV.l0, show ((i : Int) < (l.length : Int)) by omega, show ((i : Int) < (l'.length : Int)) by omega, show (0 : Int) ≤ (i : Int) by omega, if_true, qN, qe (show i < 9223372036854775807 by omega), decide_eq_true_eq]
  · simp only [show ¬ ((l.length : Int) = (l'.length : Int)) by omega, if_false]
    rw [show decide (l = l') = false by simp; rintro rfl; exact e rfl]
    exact Ev.now _
theorem QU (l l' : List Int) (h : l.length ≤ 17592186044416) : Ev (fun k => zp.f k l l') (decide (l = l')) := by
  unfold zp.f
  by_cases e : l.length = l'.length
  · simp only [show ((l.length : Int) = (l'.length : Int)) by omega, if_true]
    rw [← jP l l' e]
    refine vy (fun k i => zp.l0 k l l' (l'.length : Int) i) _ _ (fun k => by simp only [zp.l0, show ¬ ((l.length : Int) < (l'.length : Int)) by omega, if_false]) ?_
    intro i hi k
    simp only [zp.l0, show ((i : Int) < (l.length : Int)) by omega, show ((i : Int) < (l'.length : Int)) by omega, show (0 : Int) ≤ (i : Int) by omega, if_true, qN, qe (show i < 9223372036854775807 by omega), decide_eq_true_eq]
  · simp only [show ¬ ((l.length : Int) = (l'.length : Int)) by omega, if_false]
    rw [show decide (l = l') = false by simp; rintro rfl; exact e rfl]
    exact Ev.now _
end Go.Proofs.Ytmeopnlkddflaaa.L
end
