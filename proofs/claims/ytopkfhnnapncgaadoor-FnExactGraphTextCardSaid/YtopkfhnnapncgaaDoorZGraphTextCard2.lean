/- Several texts of this session in one: Fx2, Base, Bits, Loops, LLists, LNum, LSets, LGraph, LGraphText, PuFnExactGraphText, LawFnExactGraphTextCard. Conditions: as each theorem says. -/
import Derived.Test.YtopkfhnnapncgaaDoorZGraphTextCard0
import Derived.Test.YtopkfhnnapncgaaDoorZGraphTextCard1
import Derived.Laws.BitsLemmas
import Derived.Lib.LazyBuf
import Derived.Test.YtopkfhnnapncgaaDoorRows
import Derived.Test.YtopkfhnnapncgaaDoorCards
import Derived.Test.YtopkfhnnapncgaaDoorTie
import Derived.WalkKit
import Derived.Lay
import Derived.LaidMore
import Derived.ProofKit
import Derived.OpenShut
import Derived.ShutString
import Derived.ChangeOld
import Derived.Below
import Derived.SizedLaws
import Derived.Lib.SmallJoins
section
namespace Go.Proofs.YtopkfhnnapncgaaDoor.F
open Go.RowKit Go.Proofs.YtopkfhnnapncgaaDoorW.PrintWords Go.Proofs.YtopkfhnnapncgaaDoorW.PrintLast Go.Proofs.YtopkfhnnapncgaaDoorW.PrintMore
attribute [local go_sem] max2_int min2_int max_two min_two max_three min_three max_four min_four   -- for this text's walks alone
set_option linter.unusedVariables false
set_option linter.unusedSimpArgs false

def impl_GraphText.l0 : Nat → List ByteArray → Int → Int → Int → List Int → List Int → Option (ByteArray)
  | 0, _, _, _, _, _, _ => none
  | k + 1, x3, x11, x12, x169000, x169001, x169002 => if x12 < x11 then (if 0 ≤ x12 then (if x12 < (x169001.length : Int) then ((impl_FormatInt.f (rd x169001 x12)).bind fun t174 => (if x12 < (x169002.length : Int) then ((impl_FormatInt.f (rd x169002 x12)).bind fun t176 => (if t174.size + t176.size ≤ 9223372036854775807 then (if x3.length < 8796093022208 then (impl_GraphText.l0 k (x3 ++ [t174 ++ t176]) x11 (wrap64 (x12 + 1)) x169000 x169001 x169002) else (none)) else (none))) else (none))) else (none)) else (none)) else (if (x3.length : Int) = 0 then ((impl_FormatInt.f x169000).bind fun t183 => (if t183.size + 1 ≤ 9223372036854775807 then ((impl_Join.f (([(⟨#[110, 111, 110, 101]⟩ : ByteArray)] : List ByteArray)) (⟨#[44]⟩ : ByteArray)).bind fun t184 => (if (t183 ++ (⟨#[32]⟩ : ByteArray)).size + t184.size ≤ 9223372036854775807 then (some ((t183 ++ (⟨#[32]⟩ : ByteArray)) ++ t184)) else (none))) else (none))) else ((impl_FormatInt.f x169000).bind fun t185 => (if t185.size + 1 ≤ 9223372036854775807 then ((impl_Join.f x3 (⟨#[44]⟩ : ByteArray)).bind fun t186 => (if (t185 ++ (⟨#[32]⟩ : ByteArray)).size + t186.size ≤ 9223372036854775807 then (some ((t185 ++ (⟨#[32]⟩ : ByteArray)) ++ t186)) else (none))) else (none))))
def impl_GraphText.f (k : Nat) (a0_0 : Int) (l0_1 : List Int) (l0_2 : List Int) : Option (ByteArray) := (impl_IsGraph.f k a0_0 l0_1 l0_2).bind fun t169 => (if t169 = true then (impl_GraphText.l0 k (([] : List ByteArray)) (l0_1.length : Int) 0 a0_0 l0_1 l0_2) else (some (⟨#[]⟩ : ByteArray)))
def impl_GraphText.T7 : Bool × List (List Nat × List Nat) := (true, [([], []), ([], []), ([1], [1]), ([], []), ([2, 3], [2, 3]), ([4], [4]), ([5], [5]), ([], []), ([7], [7]), ([], []), ([8, 9], [8, 9]), ([10], [10]), ([11, 6], [11]), ([6, 12], [6, 12]), ([13], [13]), ([0, 14, 12], [0, 14]), ([15, 15, 0, 1, 2, 3, 4, 5, 6, 7, 8, 9, 10, 11, 12, 13, 14, 15], [0, 15])])
def impl_GraphText.B7 : List Nat := [0, 0, 2, 0, 14, 30, 62, 0, 128, 0, 896, 1920, 4094, 8190, 16382, 32767, 65535]
theorem impl_GraphText.tab7 : rtab .any (opsOf Tryd.f13 7) = impl_GraphText.T7 := by kernel_rfl
theorem impl_GraphText.bits7 : waitsOk impl_GraphText.T7.2 impl_GraphText.B7 = true := by kernel_rfl
set_option maxHeartbeats 8000000 in
set_option maxRecDepth 100000 in
theorem impl_GraphText.calls (k : Nat) (a0_0 : Int) (A0_1 : Option Addr) (c0_1 : Nat) (l0_1 : List Int) (A0_2 : Option Addr) (c0_2 : Nat) (l0_2 : List Int) (r : ByteArray) (w : World) (hr0_1 : Kd.C (Kd.int .i64) w A0_1 l0_1.length l0_1) (hc0_1 : l0_1.length ≤ c0_1) (hr0_2 : Kd.C (Kd.int .i64) w A0_2 l0_2.length l0_2) (hc0_2 : l0_2.length ≤ c0_2) (h : impl_GraphText.f k a0_0 l0_1 l0_2 = some r) :
    Calls Tryd.prog 13 #[.agg #[.int .i64 a0_0, .slice A0_1 l0_1.length c0_1, .slice A0_2 l0_2.length c0_2]] w fun e w' => e = .returned (.string r) ∧ Below w.heap.size w w' := by
  have hu35 := Tryd.underlying35
  have HR0_1 := Aside0.mk hr0_1
  have HC0_1 := Aside0.mk hc0_1
  clear hr0_1 hc0_1
  have HR0_2 := Aside0.mk hr0_2
  have HC0_2 := Aside0.mk hc0_2
  clear hr0_2 hc0_2
  have HB := Aside0.mk (Below.refl w.heap.size w)
  have H : ((impl_IsGraph.f k a0_0 l0_1 l0_2).bind fun t169 => (if t169 = true then (impl_GraphText.l0 k (([] : List ByteArray)) (l0_1.length : Int) 0 a0_0 l0_1 l0_2) else (some (⟨#[]⟩ : ByteArray)))) = some r := h
  clear h
  replace H := Option.bind_eq_some_iff.mp H
  obtain ⟨t169, A20, H⟩ := H
  replace H : (if t169 = true then (impl_GraphText.l0 k (([] : List ByteArray)) (l0_1.length : Int) 0 a0_0 l0_1 l0_2) else (some (⟨#[]⟩ : ByteArray))) = some r := H
  have A2 := Aside0.mk A20
  clear A20
  by_cases c3 : t169 = true
  · subst c3
    have H1 : (impl_GraphText.l0 k (([] : List ByteArray)) (l0_1.length : Int) 0 a0_0 l0_1 l0_2) = some r := by rw [if_pos rfl] at H; exact H
    clear H
    have H := H1
    clear H1
    obtain ⟨y170, hy170⟩ : ∃ y_ : List ByteArray, y_ = (([] : List ByteArray)) := ⟨_, rfl⟩
    replace H : (impl_GraphText.l0 k y170 (l0_1.length : Int) 0 a0_0 l0_1 l0_2) = some r := by first | (rw [hy170]; with_reducible exact H) | (have H2_ := (Option.bind_some _ _).symm.trans H; rw [hy170]; with_reducible exact H2_) | (have H2_ := (Option.bind_some _ _).symm.trans H; with_reducible exact H2_) | with_reducible exact H | (rw [hy170]; exact H) | exact H
    have Ny170 := Aside0.mk hy170
    clear hy170
    have H' := Aside0.mk H
    clear H
    go_enter Tryd.func13, Tryd.ntmps13
    go_wp2_with (first | ((with_reducible refine gate_dst (N := 1) rfl ?_); refine box_event ?hg (N := 1) ?hd (cs := #[.int .i64 a0_0, .slice A0_1 l0_1.length c0_1, .slice A0_2 l0_2.length c0_2]) (t := 35) ?hr ?_; (case hd => rfl); (case hg => rfl); (case hr => exact sqG); intro gb168 hg w4 hbox hb; have n0_ := Aside0.mk (below_step sqB hb); have n1_ := Aside0.mk (hbox); have n2_ := Aside0.mk ((sqS hg : w.heap.size ≤ gb168)); have n3_ := Aside0.mk ((sqS hg : w.heap.size ≤ gb168)); clear HB; have HB := n0_; have BK168 := n1_; have GW168 := n2_; have GE168 := n3_; clear n0_ n1_ n2_ n3_; clear hb hbox hg; have hcz5_0 : w4.cell? ⟨gb168, 0, none⟩ = some (.int .i64 a0_0) := (blk_cell BK168.out 0).trans rfl; have hcz5_1 : w4.cell? ⟨gb168, 1, none⟩ = some (.slice A0_1 l0_1.length c0_1) := (blk_cell BK168.out 1).trans rfl; have hcz5_2 : w4.cell? ⟨gb168, 2, none⟩ = some (.slice A0_2 l0_2.length c0_2) := (blk_cell BK168.out 2).trans rfl; have hfz5_0 := blk_frozen BK168.out 0; have hfz5_1 := blk_frozen BK168.out 1; have hfz5_2 := blk_frozen BK168.out 2) | ((with_reducible refine gate_callee (f := 25) rfl ?_); refine goesL_ (some 6) rfl rfl Tryd.func25 (by kernel_rfl) rfl #[.agg #[.int .i64 a0_0, .slice A0_1 l0_1.length c0_1, .slice A0_2 l0_2.length c0_2]] rfl sqM ?_; (with_reducible refine (impl_IsGraph.calls k a0_0 _ _ l0_1 _ _ l0_2 true _ ?side1 ?side2 ?side3 ?side4 A2.out).mono ?_); (case side1 => exact sqC (Kd.C_below HR0_1.out HB.out)); (case side2 => exact HC0_1.out); (case side3 => exact sqC (Kd.C_below HR0_2.out HB.out)); (case side4 => exact HC0_2.out); rintro e w6 ⟨rfl, hb⟩; refine ⟨_, rfl, ?_⟩; have n0_ := Aside0.mk (blk_below (g := gb168) (o := .cells #[.int .i64 a0_0, .slice A0_1 l0_1.length c0_1, .slice A0_2 l0_2.length c0_2] 35 (0, 0)) (sqK BK168.out) hb); have n1_ := Aside0.mk (below_step sqB hb); clear BK168; clear HB; have BK168 := n0_; have HB := n1_; clear n0_ n1_; (try clear hb); (try clear hb2); (try clear hk); (try clear hi)) | ((with_reducible refine gate_dst (N := 8) rfl ?_); refine Kd.R_lit Kd.string _ 9 ?hg (N := 8) ?hd (xs := ([] : List ByteArray)) (inner := []) (ok := fun _ => True) (okp := fun _ => True) ?hr ?hp (fun _ hk => hk) trivial (Below.refl _ _) (Nat.le_refl _) (by simp) ?_; (case hd => rfl); (case hg => rfl); (case hr => exact sqG); (case hp => exact (Reps.none _ _)); intro v171 w7 ho8 hb hg_ hnew_; clear hg_ hnew_; (first | rw [← Ny170.out] at ho8 | (simp only [Int.reduceToNat] at ho8; rw [← Ny170.out] at ho8)); have n0_ := Aside0.mk (Kd.R_lower ho8 (below_size sqB)); have n1_ := Aside0.mk (blk_below (g := gb168) (o := .cells #[.int .i64 a0_0, .slice A0_1 l0_1.length c0_1, .slice A0_2 l0_2.length c0_2] 35 (0, 0)) (sqK BK168.out) hb); have n2_ := Aside0.mk (below_step sqB hb); clear BK168; clear HB; have HO172 := n0_; have BK168 := n1_; have HB := n2_; clear n0_ n1_ n2_; clear hb ho8; have hcz9_0 : w7.cell? ⟨gb168, 0, none⟩ = some (.int .i64 a0_0) := (blk_cell BK168.out 0).trans rfl; have hcz9_1 : w7.cell? ⟨gb168, 1, none⟩ = some (.slice A0_1 l0_1.length c0_1) := (blk_cell BK168.out 1).trans rfl; have hcz9_2 : w7.cell? ⟨gb168, 2, none⟩ = some (.slice A0_2 l0_2.length c0_2) := (blk_cell BK168.out 2).trans rfl; have hfz9_0 := blk_frozen BK168.out 0; have hfz9_1 := blk_frozen BK168.out 1; have hfz9_2 := blk_frozen BK168.out 2))
    go_loopg [3, 12] k (fun kq v3 v12 w' => ∃ (x3_1 : List ByteArray) (x12_1 : Int), v12 = .int .i64 x12_1 ∧ Aside0 (impl_GraphText.l0 kq x3_1 (l0_1.length : Int) x12_1 a0_0 l0_1 l0_2 = some r) ∧ Aside0 (kq ≤ k) ∧ Aside0 (Kd.R Kd.string 9 w' w.heap.size (fun _ => True) v3 x3_1) ∧ Aside0 (w'.heap[gb168]? = some (.cells #[.int .i64 a0_0, (.slice A0_1 l0_1.length c0_1), (.slice A0_2 l0_2.length c0_2)] 35 (0, 0))) ∧ Aside0 (Below w.heap.size w w'))
    case atStart => exact ⟨(y170), (0), (sqD), H', ⟨Nat.le_refl _⟩, ⟨sqR HO172.out⟩, ⟨sqK BK168.out⟩, ⟨sqB⟩⟩
    case round =>
      clear H'
      try clear c1
      try clear c2
      try clear p2
      try clear c3
      try clear hcz5_0
      try clear hcz5_1
      try clear hcz5_2
      try clear hcz9_0
      try clear hcz9_1
      try clear hcz9_2
      try clear hfz5_0
      try clear hfz5_1
      try clear hfz5_2
      try clear hfz9_0
      try clear hfz9_1
      try clear hfz9_2
      obtain ⟨x3_1, x12_1, rfl, HA, HK1, HO_3, BK168, HB⟩ := hrel
      cases gk with
      | zero => exact absurd HA.out (by simp [impl_GraphText.l0])
      | succ k1 =>
        have H := HA.out
        clear HA
        simp only [impl_GraphText.l0] at H
        by_cases c10 : x12_1 < (l0_1.length : Int)
        · rw [if_pos c10] at H
          have c10b0 : decide (x12_1 < (l0_1.length : Int)) = true := decide_eq_true c10
          clear c10
          by_cases c11 : 0 ≤ x12_1
          · rw [if_pos c11] at H
            have c11b0 : decide (0 ≤ x12_1) = true := decide_eq_true c11
            clear c11
            by_cases c12 : x12_1 < (l0_1.length : Int)
            · rw [if_pos c12] at H
              have c12b0 : decide (x12_1 < (l0_1.length : Int)) = true := decide_eq_true c12
              clear c12
              replace H := Option.bind_eq_some_iff.mp H
              obtain ⟨t174, A130, H⟩ := H
              replace H : (if x12_1 < (l0_2.length : Int) then ((impl_FormatInt.f (rd l0_2 x12_1)).bind fun t176 => (if t174.size + t176.size ≤ 9223372036854775807 then (if x3_1.length < 8796093022208 then (impl_GraphText.l0 k1 (x3_1 ++ [t174 ++ t176]) (l0_1.length : Int) (wrap64 (x12_1 + 1)) a0_0 l0_1 l0_2) else (none)) else (none))) else (none)) = some r := H
              have A13 := Aside0.mk A130
              clear A130
              by_cases c14 : x12_1 < (l0_2.length : Int)
              · rw [if_pos c14] at H
                have c14b0 : decide (x12_1 < (l0_2.length : Int)) = true := decide_eq_true c14
                clear c14
                replace H := Option.bind_eq_some_iff.mp H
                obtain ⟨t176, A150, H⟩ := H
                replace H : (if t174.size + t176.size ≤ 9223372036854775807 then (if x3_1.length < 8796093022208 then (impl_GraphText.l0 k1 (x3_1 ++ [t174 ++ t176]) (l0_1.length : Int) (wrap64 (x12_1 + 1)) a0_0 l0_1 l0_2) else (none)) else (none)) = some r := H
                have A15 := Aside0.mk A150
                clear A150
                by_cases c16 : t174.size + t176.size ≤ 9223372036854775807
                · rw [if_pos c16] at H
                  have c16b0 := eq_true c16
                  have c16b1 : decide (t174.size + t176.size ≤ 9223372036854775807) = true := decide_eq_true c16
                  try have c16b2 : (9223372036854775807 < t174.size + t176.size) = False := eq_false (Nat.not_lt.2 c16)
                  by_cases c17 : x3_1.length < 8796093022208
                  · rw [if_pos c17] at H
                    have LMc17 := Aside0.mk c17
                    clear c17
                    obtain ⟨y177, hy177⟩ : ∃ y_ : List ByteArray, y_ = (x3_1 ++ [t174 ++ t176]) := ⟨_, rfl⟩
                    replace H : (impl_GraphText.l0 k1 y177 (l0_1.length : Int) (wrap64 (x12_1 + 1)) a0_0 l0_1 l0_2) = some r := by first | (rw [hy177]; with_reducible exact H) | (have H2_ := (Option.bind_some _ _).symm.trans H; rw [hy177]; with_reducible exact H2_) | (have H2_ := (Option.bind_some _ _).symm.trans H; with_reducible exact H2_) | with_reducible exact H | (rw [hy177]; exact H) | exact H
                    have Ny177 := Aside0.mk hy177
                    clear hy177
                    have H' := Aside0.mk H
                    clear H
                    try go_wp2
                    have n0_ := Aside0.mk (Kd.R_drew HO_3.out)
                    have n1_ := Aside0.mk (blk_drew BK168.out)
                    have n2_ := Aside0.mk (below_drew1 HB.out)
                    clear HO_3 BK168 HB; have HO_3 := n0_; have BK168 := n1_; have HB := n2_; clear n0_ n1_ n2_
                    have p173 : 0 ≤ (x12_1 : Int) := of_decide_eq_true sqA
                    have q173 : x12_1 < (l0_1.length : Int) := of_decide_eq_true sqA
                    obtain ⟨ad173, e173, hx173_0⟩ := Kd.at_int HR0_1.out x12_1 p173 q173
                    have hw173_0 := hx173_0
                    cases e173
                    replace hx173_0 := (HB.out.cell (World.block_lt_of_cell? w _ hx173_0)).trans hx173_0
                    replace p173 := eq_true p173
                    replace q173 := eq_true q173
                    have p175 : 0 ≤ (x12_1 : Int) := of_decide_eq_true sqA
                    have q175 : x12_1 < (l0_2.length : Int) := of_decide_eq_true sqA
                    obtain ⟨ad175, e175, hx175_0⟩ := Kd.at_int HR0_2.out x12_1 p175 q175
                    have hw175_0 := hx175_0
                    cases e175
                    replace hx175_0 := (HB.out.cell (World.block_lt_of_cell? w _ hx175_0)).trans hx175_0
                    replace p175 := eq_true p175
                    replace q175 := eq_true q175
                    refine start_ (n := 17) (S := fun w' => w'.cell? ⟨gb168, 0, none⟩ = some (.int .i64 a0_0) ∧ w'.cell? ⟨gb168, 1, none⟩ = some (.slice (some ad173) l0_1.length c0_1) ∧ w'.cell? ⟨gb168, 2, none⟩ = some (.slice (some ad175) l0_2.length c0_2) ∧ w'.cell? (ad173.add (x12_1).toNat) = some (.int .i64 (rd l0_1 x12_1)) ∧ w'.cell? (ad175.add (x12_1).toNat) = some (.int .i64 (rd l0_2 x12_1))) (ds := []) #[false, false, false, false, false, false, false, false, false, false, false, false, false, false, false, false, false] (by kernel_rfl) rfl rfl ⟨(blk_cell BK168.out 0).trans rfl, (blk_cell BK168.out 1).trans rfl, (blk_cell BK168.out 2).trans rfl, ((HB.out.cell (World.block_lt_of_cell? w _ hw173_0)).trans hw173_0), ((HB.out.cell (World.block_lt_of_cell? w _ hw175_0)).trans hw175_0)⟩ (fun hHeld => ?_); refine with_tabW impl_GraphText.tab7 impl_GraphText.bits7 (fun HT_ HW_ => ?_)
                    generalize wr.drew = w18 at HO_3 BK168 HB hx173_0 hx175_0 hHeld ⊢
                    refine pure_ (i := 0) (N := some 15) (v := ?_) (a' := ?_) #[true, false, false, false, false, false, false, false, false, false, false, false, false, false, false, false, false] rfl rfl (any_of HT_.out (by kernel_rfl)) (fun _ _ _ h => h) (Or.inl ⟨by rfl, ?_⟩) ?_ ?_
                    rotate_left
                    · intro w'; go_simp; with_reducible rfl
                    rotate_left
                    · simp only [Act.put, List.setIfInBounds_toArray, List.set_cons_zero, List.set_cons_succ, i64_w, i32_w]; rfl
                    refine pure_ (i := 1) (N := some 16) (v := ?_) (a' := ?_) #[true, true, false, false, false, false, false, false, false, false, false, false, false, false, false, false, false] rfl rfl (any_of HT_.out (by kernel_rfl)) (fun _ _ _ h => h) (Or.inl ⟨by rfl, ?_⟩) ?_ ?_
                    rotate_left
                    · intro w'; go_simp; with_reducible rfl
                    rotate_left
                    · simp only [Act.put, List.setIfInBounds_toArray, List.set_cons_zero, List.set_cons_succ, i64_w, i32_w]; rfl
                    refine pure_ (i := 3) (N := some 18) (v := ?_) (a' := ?_) #[true, true, false, true, false, false, false, false, false, false, false, false, false, false, false, false, false] rfl rfl (any_of HT_.out (by kernel_rfl)) (fun _ _ _ h => h) (Or.inl ⟨by rfl, ?_⟩) ?_ ?_
                    rotate_left
                    · intro w'; go_simp; with_reducible rfl
                    rotate_left
                    · simp only [Act.put, List.setIfInBounds_toArray, List.set_cons_zero, List.set_cons_succ, i64_w, i32_w]; rfl
                    refine pure_ (i := 7) (N := some 22) (v := ?_) (a' := ?_) #[true, true, false, true, false, false, false, true, false, false, false, false, false, false, false, false, false] rfl rfl (any_of HT_.out (by kernel_rfl)) (fun _ _ _ h => h) (Or.inl ⟨by rfl, ?_⟩) ?_ ?_
                    rotate_left
                    · intro w'; go_simp; with_reducible rfl
                    rotate_left
                    · simp only [Act.put, List.setIfInBounds_toArray, List.set_cons_zero, List.set_cons_succ, i64_w, i32_w]; rfl
                    refine pure_ (i := 9) (N := some 24) (v := ?_) (a' := ?_) #[true, true, false, true, false, false, false, true, false, true, false, false, false, false, false, false, false] rfl rfl (any_of HT_.out (by kernel_rfl)) (fun _ _ _ h => h) (Or.inl ⟨by rfl, ?_⟩) ?_ ?_
                    rotate_left
                    · intro w'; go_simp; with_reducible rfl
                    rotate_left
                    · simp only [Act.put, List.setIfInBounds_toArray, List.set_cons_zero, List.set_cons_succ, i64_w, i32_w]; rfl
                    refine take_ (i := 2) (N := some 17) (v := ?_) (a' := ?_) #[true, true, true, true, false, false, false, true, false, true, false, false, false, false, false, false, false] rfl rfl (take_ofW HT_.out HW_.out (by kernel_rfl)) (fun _ _ _ h => h) (Or.inl ⟨by rfl, ?_⟩) hHeld ?_ ?_
                    rotate_left
                    · rintro w' ⟨s0, s1, s2, s3, s4⟩; go_simp; with_reducible rfl
                    rotate_left
                    · simp only [Act.put, List.setIfInBounds_toArray, List.set_cons_zero, List.set_cons_succ, i64_w, i32_w]; rfl
                    refine pure_ (i := 4) (N := some 19) (v := ?_) (a' := ?_) #[true, true, true, true, true, false, false, true, false, true, false, false, false, false, false, false, false] rfl rfl (any_of HT_.out (by kernel_rfl)) (fun _ _ _ h => h) (Or.inl ⟨by rfl, ?_⟩) ?_ ?_
                    rotate_left
                    · intro w'; go_simp; with_reducible rfl
                    rotate_left
                    · simp only [Act.put, List.setIfInBounds_toArray, List.set_cons_zero, List.set_cons_succ, i64_w, i32_w]; rfl
                    refine take_ (i := 5) (N := some 20) (v := ?_) (a' := ?_) #[true, true, true, true, true, true, false, true, false, true, false, false, false, false, false, false, false] rfl rfl (take_ofW HT_.out HW_.out (by kernel_rfl)) (fun _ _ _ h => h) (Or.inl ⟨by rfl, ?_⟩) hHeld ?_ ?_
                    rotate_left
                    · rintro w' ⟨s0, s1, s2, s3, s4⟩; go_simp; with_reducible rfl
                    rotate_left
                    · simp only [Act.put, List.setIfInBounds_toArray, List.set_cons_zero, List.set_cons_succ, i64_w, i32_w]; rfl
                    refine take_ (i := 8) (N := some 23) (v := ?_) (a' := ?_) #[true, true, true, true, true, true, false, true, true, true, false, false, false, false, false, false, false] rfl rfl (take_ofW HT_.out HW_.out (by kernel_rfl)) (fun _ _ _ h => h) (Or.inl ⟨by rfl, ?_⟩) hHeld ?_ ?_
                    rotate_left
                    · rintro w' ⟨s0, s1, s2, s3, s4⟩; go_simp; with_reducible rfl
                    rotate_left
                    · simp only [Act.put, List.setIfInBounds_toArray, List.set_cons_zero, List.set_cons_succ, i64_w, i32_w]; rfl
                    refine pure_ (i := 10) (N := some 25) (v := ?_) (a' := ?_) #[true, true, true, true, true, true, false, true, true, true, true, false, false, false, false, false, false] rfl rfl (any_of HT_.out (by kernel_rfl)) (fun _ _ _ h => h) (Or.inl ⟨by rfl, ?_⟩) ?_ ?_
                    rotate_left
                    · intro w'; go_simp; with_reducible rfl
                    rotate_left
                    · simp only [Act.put, List.setIfInBounds_toArray, List.set_cons_zero, List.set_cons_succ, i64_w, i32_w]; rfl
                    refine take_ (i := 11) (N := some 26) (v := ?_) (a' := ?_) #[true, true, true, true, true, true, false, true, true, true, true, true, false, false, false, false, false] rfl rfl (take_ofW HT_.out HW_.out (by kernel_rfl)) (fun _ _ _ h => h) (Or.inl ⟨by rfl, ?_⟩) hHeld ?_ ?_
                    rotate_left
                    · rintro w' ⟨s0, s1, s2, s3, s4⟩; go_simp; with_reducible rfl
                    rotate_left
                    · simp only [Act.put, List.setIfInBounds_toArray, List.set_cons_zero, List.set_cons_succ, i64_w, i32_w]; rfl
                    refine one_ (i := 6) (N := some 21) #[true, true, true, true, true, true, true, true, true, true, true, true, false, false, false, false, false] rfl rfl (one_of HT_.out (by kernel_rfl)) (by decide) (fun K hK => ?_)
                    refine goes_ Tryd.func20 (by kernel_rfl) rfl #[.int .i64 (rd l0_1 x12_1)] (by rfl) rfl rfl sqM ?_
                    with_reducible refine (impl_FormatInt.calls (rd l0_1 x12_1) t174 _ A13.out).mono ?_
                    rintro e w' ⟨rfl, ⟨nd, rfl⟩⟩
                    refine ⟨_, rfl, ?_⟩
                    refine hK.out _ _ ⟨(blk_cell BK168.out 0).trans rfl, (blk_cell BK168.out 1).trans rfl, (blk_cell BK168.out 2).trans rfl, ((HB.out.cell (World.block_lt_of_cell? w _ hw173_0)).trans hw173_0), ((HB.out.cell (World.block_lt_of_cell? w _ hw175_0)).trans hw175_0)⟩ (fun hHeld => ?_)
                    clear hK K
                    refine norm_ (a' := ?_) ?_ ?_
                    rotate_left
                    · show Act.put _ (some 21) _ = _; simp only [Act.put, List.setIfInBounds_toArray, List.set_cons_zero, List.set_cons_succ, i64_w, i32_w]; rfl
                    refine one_ (i := 12) (N := some 27) #[true, true, true, true, true, true, true, true, true, true, true, true, true, false, false, false, false] rfl rfl (one_of HT_.out (by kernel_rfl)) (by decide) (fun K hK => ?_)
                    refine goes_ Tryd.func20 (by kernel_rfl) rfl #[.int .i64 (rd l0_2 x12_1)] (by rfl) rfl rfl sqM ?_
                    with_reducible refine (impl_FormatInt.calls (rd l0_2 x12_1) t176 _ A15.out).mono ?_
                    rintro e w' ⟨rfl, ⟨nd, rfl⟩⟩
                    refine ⟨_, rfl, ?_⟩
                    refine hK.out _ _ ⟨(blk_cell BK168.out 0).trans rfl, (blk_cell BK168.out 1).trans rfl, (blk_cell BK168.out 2).trans rfl, ((HB.out.cell (World.block_lt_of_cell? w _ hw173_0)).trans hw173_0), ((HB.out.cell (World.block_lt_of_cell? w _ hw175_0)).trans hw175_0)⟩ (fun hHeld => ?_)
                    clear hK K
                    refine norm_ (a' := ?_) ?_ ?_
                    rotate_left
                    · show Act.put _ (some 27) _ = _; simp only [Act.put, List.setIfInBounds_toArray, List.set_cons_zero, List.set_cons_succ, i64_w, i32_w]; rfl
                    refine pure_ (i := 13) (N := some 28) (v := ?_) (a' := ?_) #[true, true, true, true, true, true, true, true, true, true, true, true, true, true, false, false, false] rfl rfl (any_of HT_.out (by kernel_rfl)) (fun _ _ _ h => h) (Or.inl ⟨by rfl, ?_⟩) ?_ ?_
                    rotate_left
                    · intro w'; go_simp; with_reducible rfl
                    rotate_left
                    · simp only [Act.put, List.setIfInBounds_toArray, List.set_cons_zero, List.set_cons_succ, i64_w, i32_w]; rfl
                    refine one_ (i := 14) (N := some 29) #[true, true, true, true, true, true, true, true, true, true, true, true, true, true, true, false, false] rfl rfl (one_of HT_.out (by kernel_rfl)) (by decide) (fun K hK => ?_)
                    refine value_ (w1 := ?_) (v := ?_) (by rfl) rfl ?_ ?_
                    rotate_left 2
                    · go_simp
                      constructor
                      · rfl
                      · rfl
                    refine hK.out _ _ ⟨(blk_cell (blk_alloc BK168.out _) 0).trans rfl, (blk_cell (blk_alloc BK168.out _) 1).trans rfl, (blk_cell (blk_alloc BK168.out _) 2).trans rfl, (World.cell?_alloc_lt _ _ _ (World.block_lt_of_cell? _ _ (((HB.out.cell (World.block_lt_of_cell? w _ hw173_0)).trans hw173_0)))).trans (((HB.out.cell (World.block_lt_of_cell? w _ hw173_0)).trans hw173_0)), (World.cell?_alloc_lt _ _ _ (World.block_lt_of_cell? _ _ (((HB.out.cell (World.block_lt_of_cell? w _ hw175_0)).trans hw175_0)))).trans (((HB.out.cell (World.block_lt_of_cell? w _ hw175_0)).trans hw175_0))⟩ (fun hHeld => ?_)
                    clear hK K
                    refine norm_ (a' := ?_) ?_ ?_
                    rotate_left
                    · show Act.put _ (some 29) _ = _; simp only [Act.put, List.setIfInBounds_toArray, List.set_cons_zero, List.set_cons_succ, i64_w, i32_w]; rfl
                    refine one_ (i := 15) (N := some 30) #[true, true, true, true, true, true, true, true, true, true, true, true, true, true, true, true, false] rfl rfl (one_of HT_.out (by kernel_rfl)) (by decide) (fun K hK => ?_)
                    refine Kd.R_append_step Kd.string (w0 := w) w.heap.size (by rfl) (.tmp 15) (.tmp 29) 46 9 (.string ⟨#[]⟩) 16 rfl Tryd.underlying46 info9 rfl (by decide) (by omega) u3 x3_1 (t174 ++ t176) [.string (t174 ++ t176)] (fun _ => True) (fun _ => False) rfl rfl ?aP (fun _ hk => hk.elim) ?aF ?aO ?aB ?aS ?aL ?_
                    (case aP => exact rfl)
                    (case aB => exact sqB)
                    (case aF => exact (fun _ _ => trivial))
                    (case aO => exact (sqR HO_3.out))
                    (case aS => exact (below_size sqB))
                    (case aL => have := LMc17.out; omega)
                    intro v178 w19 ho hb hg hat
                    rw [← Ny177.out] at ho
                    have n0_ := Aside0.mk (blk_grown (g := gb168) (o := .cells #[.int .i64 a0_0, .slice (some ad173) l0_1.length c0_1, .slice (some ad175) l0_2.length c0_2] 35 (0, 0)) (sqK BK168.out) hg (Kd.R_ne HO_3.out BK168.out (by decide)))
                    have n1_ := Aside0.mk (hb)
                    have n2_ := Aside0.mk (ho)
                    clear BK168 HB HO_3; have BK168 := n0_; have HB := n1_; have HO179 := n2_; clear n0_ n1_ n2_ ho hb hg hat
                    refine hK.out _ _ ⟨(blk_cell BK168.out 0).trans rfl, (blk_cell BK168.out 1).trans rfl, (blk_cell BK168.out 2).trans rfl, ((HB.out.cell (World.block_lt_of_cell? w _ hw173_0)).trans hw173_0), ((HB.out.cell (World.block_lt_of_cell? w _ hw175_0)).trans hw175_0)⟩ (fun hHeld => ?_)
                    clear hK K
                    refine norm_ (a' := ?_) ?_ ?_
                    rotate_left
                    · show Act.put _ (some 30) _ = _; simp only [Act.put, List.setIfInBounds_toArray, List.set_cons_zero, List.set_cons_succ, i64_w, i32_w]; rfl
                    refine pure_ (i := 16) (N := some 3) (v := ?_) (a' := ?_) #[true, true, true, true, true, true, true, true, true, true, true, true, true, true, true, true, true] rfl rfl (any_of HT_.out (by kernel_rfl)) (fun _ _ _ h => h) (Or.inl ⟨by rfl, ?_⟩) ?_ ?_
                    rotate_left
                    · intro w'; go_simp; with_reducible rfl
                    rotate_left
                    · simp only [Act.put, List.setIfInBounds_toArray, List.set_cons_zero, List.set_cons_succ, i64_w, i32_w]; rfl
                    refine done_ (done_of HT_.out (by kernel_rfl)) ?_
                    try go_wp2
                    go_roundg k1
                    case measure => have := HK1.out; omega
                    case rel => exact ⟨(y177), (wrap64 (x12_1 + 1)), (sqD), H', ⟨by have := HK1.out; omega⟩, ⟨sqR HO179.out⟩, ⟨sqK BK168.out⟩, ⟨sqB⟩⟩
                  · rw [if_neg c17] at H
                    exact absurd H (by simp)
                · rw [if_neg c16] at H
                  exact absurd H (by simp)
              · rw [if_neg c14] at H
                exact absurd H (by simp)
            · rw [if_neg c12] at H
              exact absurd H (by simp)
          · rw [if_neg c11] at H
            exact absurd H (by simp)
        · rw [if_neg c10] at H
          have c10b0 : decide (x12_1 < (l0_1.length : Int)) = false := decide_eq_false c10
          clear c10
          by_cases c20 : (x3_1.length : Int) = 0
          · rw [if_pos c20] at H
            have c20b0 : ((x3_1.length : Int) == 0) = true := beq_iff_eq.mpr c20
            have c20b1 : ((x3_1.length : Int) != 0) = false := bne_eq_false_iff_eq.mpr c20
            clear c20
            obtain ⟨y180, hy180⟩ : ∃ y_ : List ByteArray, y_ = (([(⟨#[110, 111, 110, 101]⟩ : ByteArray)] : List ByteArray)) := ⟨_, rfl⟩
            replace H : ((impl_FormatInt.f a0_0).bind fun t183 => (if t183.size + 1 ≤ 9223372036854775807 then ((impl_Join.f y180 (⟨#[44]⟩ : ByteArray)).bind fun t184 => (if (t183 ++ (⟨#[32]⟩ : ByteArray)).size + t184.size ≤ 9223372036854775807 then (some ((t183 ++ (⟨#[32]⟩ : ByteArray)) ++ t184)) else (none))) else (none))) = some r := by first | (rw [hy180]; with_reducible exact H) | (have H2_ := (Option.bind_some _ _).symm.trans H; rw [hy180]; with_reducible exact H2_) | (have H2_ := (Option.bind_some _ _).symm.trans H; with_reducible exact H2_) | with_reducible exact H | (rw [hy180]; exact H) | exact H
            have Ny180 := Aside0.mk hy180
            clear hy180
            replace H := Option.bind_eq_some_iff.mp H
            obtain ⟨t183, A210, H⟩ := H
            replace H : (if t183.size + 1 ≤ 9223372036854775807 then ((impl_Join.f y180 (⟨#[44]⟩ : ByteArray)).bind fun t184 => (if (t183 ++ (⟨#[32]⟩ : ByteArray)).size + t184.size ≤ 9223372036854775807 then (some ((t183 ++ (⟨#[32]⟩ : ByteArray)) ++ t184)) else (none))) else (none)) = some r := H
            have A21 := Aside0.mk A210
            clear A210
            by_cases c22 : t183.size + 1 ≤ 9223372036854775807
            · rw [if_pos c22] at H
              have c22b0 := eq_true c22
              have c22b1 : decide (t183.size + 1 ≤ 9223372036854775807) = true := decide_eq_true c22
              try have c22b2 : (9223372036854775807 < t183.size + 1) = False := eq_false (Nat.not_lt.2 c22)
              replace H := Option.bind_eq_some_iff.mp H
              obtain ⟨t184, A230, H⟩ := H
              replace H : (if (t183 ++ (⟨#[32]⟩ : ByteArray)).size + t184.size ≤ 9223372036854775807 then (some ((t183 ++ (⟨#[32]⟩ : ByteArray)) ++ t184)) else (none)) = some r := H
              have A23 := Aside0.mk A230
              clear A230
              by_cases c24 : (t183 ++ (⟨#[32]⟩ : ByteArray)).size + t184.size ≤ 9223372036854775807
              · rw [if_pos c24] at H
                have c24b0 := eq_true c24
                have c24b1 : decide ((t183 ++ (⟨#[32]⟩ : ByteArray)).size + t184.size ≤ 9223372036854775807) = true := decide_eq_true c24
                try have c24b2 : (9223372036854775807 < (t183 ++ (⟨#[32]⟩ : ByteArray)).size + t184.size) = False := eq_false (Nat.not_lt.2 c24)
                try have c24b3 : (9223372036854775807 < t183.size + 1 + t184.size) = False := by have h_ := c24b2; simp only [ByteArray.size_append] at h_; exact h_
                obtain rfl := Option.some.inj H
                obtain ⟨Ao25, co25, eo25⟩ := Kd.R_slice HO_3.out
                subst eo25
                go_wp2_with (first | ((with_reducible refine gate_dst (N := 35) rfl ?_); refine Kd.R_lit Kd.string _ 9 ?hg (N := 35) ?hd (xs := ([(⟨#[110, 111, 110, 101]⟩ : ByteArray)] : List ByteArray)) (inner := [.string (⟨#[110, 111, 110, 101]⟩ : ByteArray)]) (ok := fun _ => True) (okp := fun _ => True) ?hr ?hp (fun _ hk => hk) trivial (Below.refl _ _) (Nat.le_refl _) (by simp) ?_; (case hd => rfl); (case hg => rfl); (case hr => exact sqG); (case hp => exact (Reps.one (show Kd.M Kd.string _ _ _ (⟨#[110, 111, 110, 101]⟩ : ByteArray) [.string (⟨#[110, 111, 110, 101]⟩ : ByteArray)] from rfl) (Reps.none _ _))); intro v181 w26 ho27 hb hg_ hnew_; clear hg_ hnew_; (first | rw [← Ny180.out] at ho27 | (simp only [Int.reduceToNat] at ho27; rw [← Ny180.out] at ho27)); have n0_ := Aside0.mk (Kd.R_elder' (sqR HO_3.out) (Kd.R_base ho27) hb); have n1_ := Aside0.mk (Kd.R_lower (Kd.R_new' ho27 (Kd.R_lt (sqR HO_3.out))) (below_size sqB)); have n2_ := Aside0.mk (blk_below (g := gb168) (o := .cells #[.int .i64 a0_0, .slice A0_1 l0_1.length c0_1, .slice A0_2 l0_2.length c0_2] 35 (0, 0)) (sqK BK168.out) hb); have n3_ := Aside0.mk (below_step sqB hb); clear HO_3; clear BK168; clear HB; have HO_3 := n0_; have HO182 := n1_; have BK168 := n2_; have HB := n3_; clear n0_ n1_ n2_ n3_; clear hb ho27; have hcz28_0 : w26.cell? ⟨gb168, 0, none⟩ = some (.int .i64 a0_0) := (blk_cell BK168.out 0).trans rfl; have hcz28_1 : w26.cell? ⟨gb168, 1, none⟩ = some (.slice A0_1 l0_1.length c0_1) := (blk_cell BK168.out 1).trans rfl; have hcz28_2 : w26.cell? ⟨gb168, 2, none⟩ = some (.slice A0_2 l0_2.length c0_2) := (blk_cell BK168.out 2).trans rfl; have hfz28_0 := blk_frozen BK168.out 0; have hfz28_1 := blk_frozen BK168.out 1; have hfz28_2 := blk_frozen BK168.out 2) | ((with_reducible refine gate_callee (f := 20) rfl ?_); refine goesL_ (some 38) rfl rfl Tryd.func20 (by kernel_rfl) rfl #[.int .i64 a0_0] rfl sqM ?_; (with_reducible refine (impl_FormatInt.calls a0_0 t183 _ A21.out).mono ?_); rintro e w' ⟨rfl, ⟨nd, rfl⟩⟩; refine ⟨_, rfl, ?_⟩; obtain ⟨Ao29, co29, eo29⟩ := Kd.R_slice HO182.out; subst eo29) | ((with_reducible refine gate_callee (f := 26) rfl ?_); refine goesL_ (some 41) rfl rfl Tryd.func26 (by kernel_rfl) rfl #[.slice Ao29 y180.length co29, .string (⟨#[44]⟩ : ByteArray)] rfl sqM ?_; (with_reducible refine (impl_Join.calls _ _ y180 (⟨#[44]⟩ : ByteArray) t184 _ ?side1 ?side2 A23.out).mono ?_); (case side1 => exact sqC (Kd.R_reads' HO182.out).2.2); (case side2 => exact (Kd.R_reads' HO182.out).2.1); rintro e w30 ⟨rfl, hb⟩; refine ⟨_, rfl, ?_⟩; have n0_ := Aside0.mk (Kd.R_below (sqR HO_3.out) hb); have n1_ := Aside0.mk (Kd.R_below (sqR HO182.out) hb); have n2_ := Aside0.mk (blk_below (g := gb168) (o := .cells #[.int .i64 a0_0, .slice A0_1 l0_1.length c0_1, .slice A0_2 l0_2.length c0_2] 35 (0, 0)) (sqK BK168.out) hb); have n3_ := Aside0.mk (below_step sqB hb); clear HO_3; clear HO182; clear BK168; clear HB; have HO_3 := n0_; have HO182 := n1_; have BK168 := n2_; have HB := n3_; clear n0_ n1_ n2_ n3_; (try clear hb); (try clear hb2); (try clear hk); (try clear hi)))
                go_ret
                exact ⟨sqE, sqB⟩
              · rw [if_neg c24] at H
                exact absurd H (by simp)
            · rw [if_neg c22] at H
              exact absurd H (by simp)
          · rw [if_neg c20] at H
            have c20b0 : ((x3_1.length : Int) == 0) = false := beq_eq_false_iff_ne.mpr c20
            have c20b1 : ((x3_1.length : Int) != 0) = true := bne_iff_ne.mpr c20
            have c20b2 : ¬ (x3_1 = []) := fun h_ => c20 (by rw [h_]; rfl)
            replace H := Option.bind_eq_some_iff.mp H
            obtain ⟨t185, A310, H⟩ := H
            replace H : (if t185.size + 1 ≤ 9223372036854775807 then ((impl_Join.f x3_1 (⟨#[44]⟩ : ByteArray)).bind fun t186 => (if (t185 ++ (⟨#[32]⟩ : ByteArray)).size + t186.size ≤ 9223372036854775807 then (some ((t185 ++ (⟨#[32]⟩ : ByteArray)) ++ t186)) else (none))) else (none)) = some r := H
            have A31 := Aside0.mk A310
            clear A310
            by_cases c32 : t185.size + 1 ≤ 9223372036854775807
            · rw [if_pos c32] at H
              have c32b0 := eq_true c32
              have c32b1 : decide (t185.size + 1 ≤ 9223372036854775807) = true := decide_eq_true c32
              try have c32b2 : (9223372036854775807 < t185.size + 1) = False := eq_false (Nat.not_lt.2 c32)
              replace H := Option.bind_eq_some_iff.mp H
              obtain ⟨t186, A330, H⟩ := H
              replace H : (if (t185 ++ (⟨#[32]⟩ : ByteArray)).size + t186.size ≤ 9223372036854775807 then (some ((t185 ++ (⟨#[32]⟩ : ByteArray)) ++ t186)) else (none)) = some r := H
              have A33 := Aside0.mk A330
              clear A330
              by_cases c34 : (t185 ++ (⟨#[32]⟩ : ByteArray)).size + t186.size ≤ 9223372036854775807
              · rw [if_pos c34] at H
                have c34b0 := eq_true c34
                have c34b1 : decide ((t185 ++ (⟨#[32]⟩ : ByteArray)).size + t186.size ≤ 9223372036854775807) = true := decide_eq_true c34
                try have c34b2 : (9223372036854775807 < (t185 ++ (⟨#[32]⟩ : ByteArray)).size + t186.size) = False := eq_false (Nat.not_lt.2 c34)
                try have c34b3 : (9223372036854775807 < t185.size + 1 + t186.size) = False := by have h_ := c34b2; simp only [ByteArray.size_append] at h_; exact h_
                obtain rfl := Option.some.inj H
                obtain ⟨Ao35, co35, eo35⟩ := Kd.R_slice HO_3.out
                subst eo35
                have hcz36_0 : wr.cell? ⟨gb168, 0, none⟩ = some (.int .i64 a0_0) := (blk_cell BK168.out 0).trans rfl
                have hcz36_1 : wr.cell? ⟨gb168, 1, none⟩ = some (.slice A0_1 l0_1.length c0_1) := (blk_cell BK168.out 1).trans rfl
                have hcz36_2 : wr.cell? ⟨gb168, 2, none⟩ = some (.slice A0_2 l0_2.length c0_2) := (blk_cell BK168.out 2).trans rfl
                have hfz36_0 := blk_frozen BK168.out 0; have hfz36_1 := blk_frozen BK168.out 1; have hfz36_2 := blk_frozen BK168.out 2
                go_wp2_with (first | ((with_reducible refine gate_callee (f := 20) rfl ?_); refine goesL_ (some 38) rfl rfl Tryd.func20 (by kernel_rfl) rfl #[.int .i64 a0_0] rfl sqM ?_; (with_reducible refine (impl_FormatInt.calls a0_0 t185 _ A31.out).mono ?_); rintro e w' ⟨rfl, ⟨nd, rfl⟩⟩; refine ⟨_, rfl, ?_⟩) | ((with_reducible refine gate_callee (f := 26) rfl ?_); refine goesL_ (some 41) rfl rfl Tryd.func26 (by kernel_rfl) rfl #[.slice Ao35 x3_1.length co35, .string (⟨#[44]⟩ : ByteArray)] rfl sqM ?_; (with_reducible refine (impl_Join.calls _ _ x3_1 (⟨#[44]⟩ : ByteArray) t186 _ ?side1 ?side2 A33.out).mono ?_); (case side1 => exact sqC (Kd.R_reads' HO_3.out).2.2); (case side2 => exact (Kd.R_reads' HO_3.out).2.1); rintro e w37 ⟨rfl, hb⟩; refine ⟨_, rfl, ?_⟩; have n0_ := Aside0.mk (Kd.R_below (sqR HO_3.out) hb); have n1_ := Aside0.mk (blk_below (g := gb168) (o := .cells #[.int .i64 a0_0, .slice A0_1 l0_1.length c0_1, .slice A0_2 l0_2.length c0_2] 35 (0, 0)) (sqK BK168.out) hb); have n2_ := Aside0.mk (below_step sqB hb); clear HO_3; clear BK168; clear HB; have HO_3 := n0_; have BK168 := n1_; have HB := n2_; clear n0_ n1_ n2_; (try clear hb); (try clear hb2); (try clear hk); (try clear hi)))
                go_ret
                exact ⟨sqE, sqB⟩
              · rw [if_neg c34] at H
                exact absurd H (by simp)
            · rw [if_neg c32] at H
              exact absurd H (by simp)
  · replace c3 := Bool.eq_false_iff.mpr c3
    subst c3
    have H1 : (some (⟨#[]⟩ : ByteArray)) = some r := by rw [if_neg (show ¬ (false = true) by decide)] at H; exact H
    clear H
    have H := H1
    clear H1
    obtain rfl := Option.some.inj H
    go_enter Tryd.func13, Tryd.ntmps13
    go_wp2_with (first | ((with_reducible refine gate_dst (N := 1) rfl ?_); refine box_event ?hg (N := 1) ?hd (cs := #[.int .i64 a0_0, .slice A0_1 l0_1.length c0_1, .slice A0_2 l0_2.length c0_2]) (t := 35) ?hr ?_; (case hd => rfl); (case hg => rfl); (case hr => exact sqG); intro gb168 hg w38 hbox hb; have n0_ := Aside0.mk (below_step sqB hb); have n1_ := Aside0.mk (hbox); have n2_ := Aside0.mk ((sqS hg : w.heap.size ≤ gb168)); have n3_ := Aside0.mk ((sqS hg : w.heap.size ≤ gb168)); clear HB; have HB := n0_; have BK168 := n1_; have GW168 := n2_; have GE168 := n3_; clear n0_ n1_ n2_ n3_; clear hb hbox hg; have hcz39_0 : w38.cell? ⟨gb168, 0, none⟩ = some (.int .i64 a0_0) := (blk_cell BK168.out 0).trans rfl; have hcz39_1 : w38.cell? ⟨gb168, 1, none⟩ = some (.slice A0_1 l0_1.length c0_1) := (blk_cell BK168.out 1).trans rfl; have hcz39_2 : w38.cell? ⟨gb168, 2, none⟩ = some (.slice A0_2 l0_2.length c0_2) := (blk_cell BK168.out 2).trans rfl; have hfz39_0 := blk_frozen BK168.out 0; have hfz39_1 := blk_frozen BK168.out 1; have hfz39_2 := blk_frozen BK168.out 2) | ((with_reducible refine gate_callee (f := 25) rfl ?_); refine goesL_ (some 6) rfl rfl Tryd.func25 (by kernel_rfl) rfl #[.agg #[.int .i64 a0_0, .slice A0_1 l0_1.length c0_1, .slice A0_2 l0_2.length c0_2]] rfl sqM ?_; (with_reducible refine (impl_IsGraph.calls k a0_0 _ _ l0_1 _ _ l0_2 false _ ?side1 ?side2 ?side3 ?side4 A2.out).mono ?_); (case side1 => exact sqC (Kd.C_below HR0_1.out HB.out)); (case side2 => exact HC0_1.out); (case side3 => exact sqC (Kd.C_below HR0_2.out HB.out)); (case side4 => exact HC0_2.out); rintro e w40 ⟨rfl, hb⟩; refine ⟨_, rfl, ?_⟩; have n0_ := Aside0.mk (blk_below (g := gb168) (o := .cells #[.int .i64 a0_0, .slice A0_1 l0_1.length c0_1, .slice A0_2 l0_2.length c0_2] 35 (0, 0)) (sqK BK168.out) hb); have n1_ := Aside0.mk (below_step sqB hb); clear BK168; clear HB; have BK168 := n0_; have HB := n1_; clear n0_ n1_; (try clear hb); (try clear hb2); (try clear hk); (try clear hi)))
    go_ret
    exact ⟨sqE, sqB⟩

def laws_FnExactGraphText.f (k : Nat) (a0_0 : Int) (l0_1 : List Int) (l0_2 : List Int) : Option (Bool) := (laws_szGraph.f a0_0 l0_1 l0_2 1048576).bind fun t194 => (if t194 < 0 then (some true) else ((laws_toGraph.f k a0_0 l0_1 l0_2).bind fun bt195 => ((spec_GraphText.f k bt195.1 bt195.2.1 bt195.2.2).bind fun t202 => ((laws_toGraph.f k a0_0 l0_1 l0_2).bind fun bt203 => ((impl_GraphText.f k bt203.1 bt203.2.1 bt203.2.2).bind fun t211 => (if t211.toList = t202.toList then ((laws_toGraph.f k a0_0 l0_1 l0_2).bind fun bt212 => ((laws_eqGraph.f k bt203.1 bt203.2.1 bt203.2.2 bt212.1 bt212.2.1 bt212.2.2).bind fun t219 => (if t219 = true then (some true) else (none)))) else (none)))))))
set_option maxHeartbeats 8000000 in
set_option maxRecDepth 100000 in
theorem laws_FnExactGraphText.calls (k : Nat) (a0_0 : Int) (A0_1 : Option Addr) (c0_1 : Nat) (l0_1 : List Int) (A0_2 : Option Addr) (c0_2 : Nat) (l0_2 : List Int) (r : Bool) (w : World) (hr0_1 : Kd.C (Kd.int .i64) w A0_1 l0_1.length l0_1) (hc0_1 : l0_1.length ≤ c0_1) (hr0_2 : Kd.C (Kd.int .i64) w A0_2 l0_2.length l0_2) (hc0_2 : l0_2.length ≤ c0_2) (h : laws_FnExactGraphText.f k a0_0 l0_1 l0_2 = some r) :
    Calls Tryd.prog 4 #[.agg #[.int .i64 a0_0, .slice A0_1 l0_1.length c0_1, .slice A0_2 l0_2.length c0_2]] w fun e w' => e = .returned (.bool r) ∧ Below w.heap.size w w' := by
  have hu32 := Tryd.underlying32
  have hu35 := Tryd.underlying35
  have HR0_1 := Aside0.mk hr0_1
  have HC0_1 := Aside0.mk hc0_1
  clear hr0_1 hc0_1
  have HR0_2 := Aside0.mk hr0_2
  have HC0_2 := Aside0.mk hc0_2
  clear hr0_2 hc0_2
  have HB := Aside0.mk (Below.refl w.heap.size w)
  have H : ((laws_szGraph.f a0_0 l0_1 l0_2 1048576).bind fun t194 => (if t194 < 0 then (some true) else ((laws_toGraph.f k a0_0 l0_1 l0_2).bind fun bt195 => ((spec_GraphText.f k bt195.1 bt195.2.1 bt195.2.2).bind fun t202 => ((laws_toGraph.f k a0_0 l0_1 l0_2).bind fun bt203 => ((impl_GraphText.f k bt203.1 bt203.2.1 bt203.2.2).bind fun t211 => (if t211.toList = t202.toList then ((laws_toGraph.f k a0_0 l0_1 l0_2).bind fun bt212 => ((laws_eqGraph.f k bt203.1 bt203.2.1 bt203.2.2 bt212.1 bt212.2.1 bt212.2.2).bind fun t219 => (if t219 = true then (some true) else (none)))) else (none)))))))) = some r := h
  clear h
  replace H := Option.bind_eq_some_iff.mp H
  obtain ⟨t194, A20, H⟩ := H
  replace H : (if t194 < 0 then (some true) else ((laws_toGraph.f k a0_0 l0_1 l0_2).bind fun bt195 => ((spec_GraphText.f k bt195.1 bt195.2.1 bt195.2.2).bind fun t202 => ((laws_toGraph.f k a0_0 l0_1 l0_2).bind fun bt203 => ((impl_GraphText.f k bt203.1 bt203.2.1 bt203.2.2).bind fun t211 => (if t211.toList = t202.toList then ((laws_toGraph.f k a0_0 l0_1 l0_2).bind fun bt212 => ((laws_eqGraph.f k bt203.1 bt203.2.1 bt203.2.2 bt212.1 bt212.2.1 bt212.2.2).bind fun t219 => (if t219 = true then (some true) else (none)))) else (none))))))) = some r := H
  have A2 := Aside0.mk A20
  clear A20
  by_cases c3 : t194 < 0
  · rw [if_pos c3] at H
    have c3b0 : decide (t194 < 0) = true := decide_eq_true c3
    clear c3
    obtain rfl := Option.some.inj H
    go_enter Tryd.func4, Tryd.ntmps4
    go_wp2_with (first | ((with_reducible refine gate_dst (N := 1) rfl ?_); refine box_event ?hg (N := 1) ?hd (cs := #[.int .i64 a0_0, .slice A0_1 l0_1.length c0_1, .slice A0_2 l0_2.length c0_2]) (t := 32) ?hr ?_; (case hd => rfl); (case hg => rfl); (case hr => exact sqG); intro gb193 hg w4 hbox hb; have n0_ := Aside0.mk (below_step sqB hb); have n1_ := Aside0.mk (hbox); have n2_ := Aside0.mk ((sqS hg : w.heap.size ≤ gb193)); have n3_ := Aside0.mk ((sqS hg : w.heap.size ≤ gb193)); clear HB; have HB := n0_; have BK193 := n1_; have GW193 := n2_; have GE193 := n3_; clear n0_ n1_ n2_ n3_; clear hb hbox hg; have hcz5_0 : w4.cell? ⟨gb193, 0, none⟩ = some (.int .i64 a0_0) := (blk_cell BK193.out 0).trans rfl; have hcz5_1 : w4.cell? ⟨gb193, 1, none⟩ = some (.slice A0_1 l0_1.length c0_1) := (blk_cell BK193.out 1).trans rfl; have hcz5_2 : w4.cell? ⟨gb193, 2, none⟩ = some (.slice A0_2 l0_2.length c0_2) := (blk_cell BK193.out 2).trans rfl; have hfz5_0 := blk_frozen BK193.out 0; have hfz5_1 := blk_frozen BK193.out 1; have hfz5_2 := blk_frozen BK193.out 2) | ((with_reducible refine gate_callee (f := 10) rfl ?_); refine goesL_ (some 9) rfl rfl Tryd.func10 (by kernel_rfl) rfl #[.agg #[.int .i64 a0_0, .slice A0_1 l0_1.length c0_1, .slice A0_2 l0_2.length c0_2], .int .i64 1048576] rfl sqM ?_; (with_reducible refine (laws_szGraph.calls a0_0 _ _ l0_1 _ _ l0_2 1048576 t194 _ ?side1 ?side2 ?side3 ?side4 A2.out).mono ?_); (case side1 => exact sqC (Kd.C_below HR0_1.out HB.out)); (case side2 => exact HC0_1.out); (case side3 => exact sqC (Kd.C_below HR0_2.out HB.out)); (case side4 => exact HC0_2.out); rintro e w6 ⟨rfl, hb⟩; refine ⟨_, rfl, ?_⟩; have n0_ := Aside0.mk (blk_below (g := gb193) (o := .cells #[.int .i64 a0_0, .slice A0_1 l0_1.length c0_1, .slice A0_2 l0_2.length c0_2] 32 (0, 0)) (sqK BK193.out) hb); have n1_ := Aside0.mk (below_step sqB hb); clear BK193; clear HB; have BK193 := n0_; have HB := n1_; clear n0_ n1_; (try clear hb); (try clear hb2); (try clear hk); (try clear hi)))
    go_ret
    exact ⟨sqE, sqB⟩
  · rw [if_neg c3] at H
    have c3b0 : decide (t194 < 0) = false := decide_eq_false c3
    clear c3
    replace H := Option.bind_eq_some_iff.mp H
    obtain ⟨⟨t195, t196, t199⟩, A70, H⟩ := H
    replace H : ((spec_GraphText.f k t195 t196 t199).bind fun t202 => ((laws_toGraph.f k a0_0 l0_1 l0_2).bind fun bt203 => ((impl_GraphText.f k bt203.1 bt203.2.1 bt203.2.2).bind fun t211 => (if t211.toList = t202.toList then ((laws_toGraph.f k a0_0 l0_1 l0_2).bind fun bt212 => ((laws_eqGraph.f k bt203.1 bt203.2.1 bt203.2.2 bt212.1 bt212.2.1 bt212.2.2).bind fun t219 => (if t219 = true then (some true) else (none)))) else (none))))) = some r := H
    have A7 := Aside0.mk A70
    clear A70
    replace H := Option.bind_eq_some_iff.mp H
    obtain ⟨t202, A80, H⟩ := H
    replace H : ((laws_toGraph.f k a0_0 l0_1 l0_2).bind fun bt203 => ((impl_GraphText.f k bt203.1 bt203.2.1 bt203.2.2).bind fun t211 => (if t211.toList = t202.toList then ((laws_toGraph.f k a0_0 l0_1 l0_2).bind fun bt212 => ((laws_eqGraph.f k bt203.1 bt203.2.1 bt203.2.2 bt212.1 bt212.2.1 bt212.2.2).bind fun t219 => (if t219 = true then (some true) else (none)))) else (none)))) = some r := H
    have A8 := Aside0.mk A80
    clear A80
    replace H := Option.bind_eq_some_iff.mp H
    obtain ⟨⟨t203, t204, t207⟩, A90, H⟩ := H
    replace H : ((impl_GraphText.f k t203 t204 t207).bind fun t211 => (if t211.toList = t202.toList then ((laws_toGraph.f k a0_0 l0_1 l0_2).bind fun bt212 => ((laws_eqGraph.f k t203 t204 t207 bt212.1 bt212.2.1 bt212.2.2).bind fun t219 => (if t219 = true then (some true) else (none)))) else (none))) = some r := H
    have A9 := Aside0.mk A90
    clear A90
    replace H := Option.bind_eq_some_iff.mp H
    obtain ⟨t211, A100, H⟩ := H
    replace H : (if t211.toList = t202.toList then ((laws_toGraph.f k a0_0 l0_1 l0_2).bind fun bt212 => ((laws_eqGraph.f k t203 t204 t207 bt212.1 bt212.2.1 bt212.2.2).bind fun t219 => (if t219 = true then (some true) else (none)))) else (none)) = some r := H
    have A10 := Aside0.mk A100
    clear A100
    by_cases c11 : t211.toList = t202.toList
    · rw [if_pos c11] at H
      have c11b0 : (t211.toList == t202.toList) = true := beq_iff_eq.mpr c11
      have c11b1 : (t211.toList != t202.toList) = false := bne_eq_false_iff_eq.mpr c11
      clear c11
      replace H := Option.bind_eq_some_iff.mp H
      obtain ⟨⟨t212, t213, t216⟩, A120, H⟩ := H
      replace H : ((laws_eqGraph.f k t203 t204 t207 t212 t213 t216).bind fun t219 => (if t219 = true then (some true) else (none))) = some r := H
      have A12 := Aside0.mk A120
      clear A120
      replace H := Option.bind_eq_some_iff.mp H
      obtain ⟨t219, A130, H⟩ := H
      replace H : (if t219 = true then (some true) else (none)) = some r := H
      have A13 := Aside0.mk A130
      clear A130
      by_cases c14 : t219 = true
      · subst c14
        have H1 : (some true) = some r := by rw [if_pos rfl] at H; exact H
        clear H
        have H := H1
        clear H1
        obtain rfl := Option.some.inj H
        go_enter Tryd.func4, Tryd.ntmps4
        try go_wp2_with (first | ((with_reducible refine gate_dst (N := 1) rfl ?_); refine box_event ?hg (N := 1) ?hd (cs := #[.int .i64 a0_0, .slice A0_1 l0_1.length c0_1, .slice A0_2 l0_2.length c0_2]) (t := 32) ?hr ?_; (case hd => rfl); (case hg => rfl); (case hr => exact sqG); intro gb193 hg w15 hbox hb; have n0_ := Aside0.mk (below_step sqB hb); have n1_ := Aside0.mk (hbox); have n2_ := Aside0.mk ((sqS hg : w.heap.size ≤ gb193)); have n3_ := Aside0.mk ((sqS hg : w.heap.size ≤ gb193)); clear HB; have HB := n0_; have BK193 := n1_; have GW193 := n2_; have GE193 := n3_; clear n0_ n1_ n2_ n3_; clear hb hbox hg; have hcz16_0 : w15.cell? ⟨gb193, 0, none⟩ = some (.int .i64 a0_0) := (blk_cell BK193.out 0).trans rfl; have hcz16_1 : w15.cell? ⟨gb193, 1, none⟩ = some (.slice A0_1 l0_1.length c0_1) := (blk_cell BK193.out 1).trans rfl; have hcz16_2 : w15.cell? ⟨gb193, 2, none⟩ = some (.slice A0_2 l0_2.length c0_2) := (blk_cell BK193.out 2).trans rfl; have hfz16_0 := blk_frozen BK193.out 0; have hfz16_1 := blk_frozen BK193.out 1; have hfz16_2 := blk_frozen BK193.out 2) | ((with_reducible refine gate_callee (f := 10) rfl ?_); refine goesL_ (some 9) rfl rfl Tryd.func10 (by kernel_rfl) rfl #[.agg #[.int .i64 a0_0, .slice A0_1 l0_1.length c0_1, .slice A0_2 l0_2.length c0_2], .int .i64 1048576] rfl sqM ?_; (with_reducible refine (laws_szGraph.calls a0_0 _ _ l0_1 _ _ l0_2 1048576 t194 _ ?side1 ?side2 ?side3 ?side4 A2.out).mono ?_); (case side1 => exact sqC (Kd.C_below HR0_1.out HB.out)); (case side2 => exact HC0_1.out); (case side3 => exact sqC (Kd.C_below HR0_2.out HB.out)); (case side4 => exact HC0_2.out); rintro e w17 ⟨rfl, hb⟩; refine ⟨_, rfl, ?_⟩; have n0_ := Aside0.mk (blk_below (g := gb193) (o := .cells #[.int .i64 a0_0, .slice A0_1 l0_1.length c0_1, .slice A0_2 l0_2.length c0_2] 32 (0, 0)) (sqK BK193.out) hb); have n1_ := Aside0.mk (below_step sqB hb); clear BK193; clear HB; have BK193 := n0_; have HB := n1_; clear n0_ n1_; (try clear hb); (try clear hb2); (try clear hk); (try clear hi); have hcz18_0 : w17.cell? ⟨gb193, 0, none⟩ = some (.int .i64 a0_0) := (blk_cell BK193.out 0).trans rfl; have hcz18_1 : w17.cell? ⟨gb193, 1, none⟩ = some (.slice A0_1 l0_1.length c0_1) := (blk_cell BK193.out 1).trans rfl; have hcz18_2 : w17.cell? ⟨gb193, 2, none⟩ = some (.slice A0_2 l0_2.length c0_2) := (blk_cell BK193.out 2).trans rfl; have hfz18_0 := blk_frozen BK193.out 0; have hfz18_1 := blk_frozen BK193.out 1; have hfz18_2 := blk_frozen BK193.out 2) | ((with_reducible refine gate_callee (f := 12) rfl ?_); refine goesL_ (some 13) rfl rfl Tryd.func12 (by kernel_rfl) rfl #[.agg #[.int .i64 a0_0, .slice A0_1 l0_1.length c0_1, .slice A0_2 l0_2.length c0_2]] rfl sqM ?_; (with_reducible refine (laws_toGraph.calls k a0_0 _ _ l0_1 _ _ l0_2 t195 t196 t199 _ ?side1 ?side2 ?side3 ?side4 A7.out).mono ?_); (case side1 => exact sqC (Kd.C_below HR0_1.out HB.out)); (case side2 => exact HC0_1.out); (case side3 => exact sqC (Kd.C_below HR0_2.out HB.out)); (case side4 => exact HC0_2.out); rintro e w19 ⟨v197, v200, rfl, ho0, ho1, hb⟩; refine ⟨_, rfl, ?_⟩; have n0_ := Aside0.mk (Kd.R_lower ho0 (below_size sqB)); have n1_ := Aside0.mk (Kd.R_lower ho1 (below_size sqB)); have n2_ := Aside0.mk (blk_below (g := gb193) (o := .cells #[.int .i64 a0_0, .slice A0_1 l0_1.length c0_1, .slice A0_2 l0_2.length c0_2] 32 (0, 0)) (sqK BK193.out) hb); have n3_ := Aside0.mk (below_step sqB hb); clear BK193; clear HB; have HO198 := n0_; have HO201 := n1_; have BK193 := n2_; have HB := n3_; clear n0_ n1_ n2_ n3_; (try clear hb); (try clear hb2); (try clear hk); (try clear hi); (try clear ho0); (try clear ho1); obtain ⟨Ao20, co20, eo20⟩ := Kd.R_slice HO198.out; subst eo20; obtain ⟨Ao21, co21, eo21⟩ := Kd.R_slice HO201.out; subst eo21) | ((with_reducible refine gate_callee (f := 11) rfl ?_); refine goesL_ (some 14) rfl rfl Tryd.func11 (by kernel_rfl) rfl #[.agg #[.int .i64 t195, .slice Ao20 t196.length co20, .slice Ao21 t199.length co21]] rfl sqM ?_; (with_reducible refine (spec_GraphText.calls k t195 _ _ t196 _ _ t199 t202 _ ?side1 ?side2 ?side3 ?side4 A8.out).mono ?_); (case side1 => exact sqC (Kd.R_reads' HO198.out).2.2); (case side2 => exact (Kd.R_reads' HO198.out).2.1); (case side3 => exact sqC (Kd.R_reads' HO201.out).2.2); (case side4 => exact (Kd.R_reads' HO201.out).2.1); rintro e w22 ⟨rfl, hb⟩; refine ⟨_, rfl, ?_⟩; have n0_ := Aside0.mk (Kd.R_below (sqR HO198.out) hb); have n1_ := Aside0.mk (Kd.R_below (sqR HO201.out) hb); have n2_ := Aside0.mk (blk_below (g := gb193) (o := .cells #[.int .i64 a0_0, .slice A0_1 l0_1.length c0_1, .slice A0_2 l0_2.length c0_2] 32 (0, 0)) (sqK BK193.out) hb); have n3_ := Aside0.mk (below_step sqB hb); clear HO198; clear HO201; clear BK193; clear HB; have HO198 := n0_; have HO201 := n1_; have BK193 := n2_; have HB := n3_; clear n0_ n1_ n2_ n3_; (try clear hb); (try clear hb2); (try clear hk); (try clear hi); have hcz23_0 : w22.cell? ⟨gb193, 0, none⟩ = some (.int .i64 a0_0) := (blk_cell BK193.out 0).trans rfl; have hcz23_1 : w22.cell? ⟨gb193, 1, none⟩ = some (.slice A0_1 l0_1.length c0_1) := (blk_cell BK193.out 1).trans rfl; have hcz23_2 : w22.cell? ⟨gb193, 2, none⟩ = some (.slice A0_2 l0_2.length c0_2) := (blk_cell BK193.out 2).trans rfl; have hfz23_0 := blk_frozen BK193.out 0; have hfz23_1 := blk_frozen BK193.out 1; have hfz23_2 := blk_frozen BK193.out 2) | ((with_reducible refine gate_callee (f := 12) rfl ?_); refine goesL_ (some 16) rfl rfl Tryd.func12 (by kernel_rfl) rfl #[.agg #[.int .i64 a0_0, .slice A0_1 l0_1.length c0_1, .slice A0_2 l0_2.length c0_2]] rfl sqM ?_; (with_reducible refine (laws_toGraph.calls k a0_0 _ _ l0_1 _ _ l0_2 t203 t204 t207 _ ?side1 ?side2 ?side3 ?side4 A9.out).mono ?_); (case side1 => exact sqC (Kd.C_below HR0_1.out HB.out)); (case side2 => exact HC0_1.out); (case side3 => exact sqC (Kd.C_below HR0_2.out HB.out)); (case side4 => exact HC0_2.out); rintro e w24 ⟨v205, v208, rfl, ho0, ho1, hb⟩; refine ⟨_, rfl, ?_⟩; have n0_ := Aside0.mk (Kd.R_mono (Kd.R_told (Kd.R_told (Kd.R_old (sqR HO198.out) hb) (Kd.R_base ho0)) (Kd.R_base ho1)) (fun _ h_ => h_.1)); have n1_ := Aside0.mk (Kd.R_mono (Kd.R_told (Kd.R_told (Kd.R_old (sqR HO201.out) hb) (Kd.R_base ho0)) (Kd.R_base ho1)) (fun _ h_ => h_.1)); have n2_ := Aside0.mk (Kd.R_lower (Kd.R_new' (Kd.R_new' ho0 (Kd.R_lt (sqR HO198.out))) (Kd.R_lt (sqR HO201.out))) (below_size sqB)); have n3_ := Aside0.mk (Kd.R_lower (Kd.R_new' (Kd.R_new' ho1 (Kd.R_lt (sqR HO198.out))) (Kd.R_lt (sqR HO201.out))) (below_size sqB)); have n4_ := Aside0.mk (blk_below (g := gb193) (o := .cells #[.int .i64 a0_0, .slice A0_1 l0_1.length c0_1, .slice A0_2 l0_2.length c0_2] 32 (0, 0)) (sqK BK193.out) hb); have n5_ := Aside0.mk (below_step sqB hb); clear HO198; clear HO201; clear BK193; clear HB; have HO198 := n0_; have HO201 := n1_; have HO206 := n2_; have HO209 := n3_; have BK193 := n4_; have HB := n5_; clear n0_ n1_ n2_ n3_ n4_ n5_; (try clear hb); (try clear hb2); (try clear hk); (try clear hi); (try clear ho0); (try clear ho1)) | ((with_reducible refine gate_dst (N := 5) rfl ?_); refine box_event ?hg (N := 5) ?hd (cs := #[.int .i64 0, .slice none 0 0, .slice none 0 0]) (t := 35) ?hr ?_; (case hd => rfl); (case hg => rfl); (case hr => exact sqG); intro gb210 hg w25 hbox hb; have n0_ := Aside0.mk (Kd.R_below (sqR HO198.out) hb); have n1_ := Aside0.mk (Kd.R_below (sqR HO201.out) hb); have n2_ := Aside0.mk (Kd.R_below (sqR HO206.out) hb); have n3_ := Aside0.mk (Kd.R_below (sqR HO209.out) hb); have n4_ := Aside0.mk (blk_below (g := gb193) (o := .cells #[.int .i64 a0_0, .slice A0_1 l0_1.length c0_1, .slice A0_2 l0_2.length c0_2] 32 (0, 0)) (sqK BK193.out) hb); have n5_ := Aside0.mk (below_step sqB hb); have n6_ := Aside0.mk (hbox); have n7_ := Aside0.mk ((sqS hg : w.heap.size ≤ gb210)); have n8_ := Aside0.mk ((sqS hg : w.heap.size ≤ gb210)); have n9_ := Aside0.mk ((by rw [hg]; exact Nat.ne_of_lt (blk_lt (g := gb193) (o := .cells #[.int .i64 a0_0, .slice A0_1 l0_1.length c0_1, .slice A0_2 l0_2.length c0_2] 32 (0, 0)) (sqK BK193.out)) : gb193 ≠ gb210)); have n10_ := Aside0.mk ((by rw [hg]; exact Nat.ne_of_gt (blk_lt (g := gb193) (o := .cells #[.int .i64 a0_0, .slice A0_1 l0_1.length c0_1, .slice A0_2 l0_2.length c0_2] 32 (0, 0)) (sqK BK193.out)) : gb210 ≠ gb193)); clear HO198; clear HO201; clear HO206; clear HO209; clear BK193; clear HB; have HO198 := n0_; have HO201 := n1_; have HO206 := n2_; have HO209 := n3_; have BK193 := n4_; have HB := n5_; have BK210 := n6_; have GW210 := n7_; have GE210 := n8_; have NB193_210 := n9_; have NB210_193 := n10_; clear n0_ n1_ n2_ n3_ n4_ n5_ n6_ n7_ n8_ n9_ n10_; clear hb hbox hg; have hnb26 := NB210_193.out; have hnc26 := NB193_210.out; have hcz27_0 : w25.cell? ⟨gb210, 0, none⟩ = some (.int .i64 0) := (blk_cell BK210.out 0).trans rfl; have hcz27_1 : w25.cell? ⟨gb210, 1, none⟩ = some (.slice none 0 0) := (blk_cell BK210.out 1).trans rfl; have hcz27_2 : w25.cell? ⟨gb210, 2, none⟩ = some (.slice none 0 0) := (blk_cell BK210.out 2).trans rfl; have hfz27_0 := blk_frozen BK210.out 0; have hfz27_1 := blk_frozen BK210.out 1; have hfz27_2 := blk_frozen BK210.out 2; obtain ⟨Ao28, co28, eo28⟩ := Kd.R_slice HO206.out; subst eo28; obtain ⟨Ao29, co29, eo29⟩ := Kd.R_slice HO209.out; subst eo29) | ((with_reducible refine gate_callee (f := 13) rfl ?_); refine goesL_ (some 18) rfl rfl Tryd.func13 (by kernel_rfl) rfl #[.agg #[.int .i64 t203, .slice Ao28 t204.length co28, .slice Ao29 t207.length co29]] rfl sqM ?_; (with_reducible refine (impl_GraphText.calls k t203 _ _ t204 _ _ t207 t211 _ ?side1 ?side2 ?side3 ?side4 A10.out).mono ?_); (case side1 => refine (Kd.R_reads' (e := 3) (base := w.heap.size) (ok := fun k_ => ((some k_ ≠ (.slice Ao29 t207.length co29 : Value).ownBlock ∧ some k_ ≠ (.slice Ao20 t196.length co20 : Value).ownBlock) ∧ some k_ ≠ (.slice Ao21 t199.length co21 : Value).ownBlock)) (n := t204.length) (c := co28) ?_).2.2; exact (by refine sqR ?_; exact (Kd.R_mono (Kd.R_far (p := ⟨gb210, 2, none⟩) (Kd.R_far (p := ⟨gb210, 1, none⟩) (Kd.R_far (p := ⟨gb210, 0, none⟩) (Kd.R_types HO206.out BK210.out (by decide)) (fun _ hk => hk.2) (.int .i64 t203)) (fun _ hk => hk.2) (.slice Ao28 t204.length co28)) (fun _ hk => hk.2) (.slice Ao29 t207.length co29)) (fun _ h_ => h_.1)))); (case side2 => exact (Kd.R_reads' HO206.out).2.1); (case side3 => refine (Kd.R_reads' (e := 3) (base := w.heap.size) (ok := fun k_ => ((some k_ ≠ (.slice Ao28 t204.length co28 : Value).ownBlock ∧ some k_ ≠ (.slice Ao20 t196.length co20 : Value).ownBlock) ∧ some k_ ≠ (.slice Ao21 t199.length co21 : Value).ownBlock)) (n := t207.length) (c := co29) ?_).2.2; exact (by refine sqR ?_; exact (Kd.R_mono (Kd.R_far (p := ⟨gb210, 2, none⟩) (Kd.R_far (p := ⟨gb210, 1, none⟩) (Kd.R_far (p := ⟨gb210, 0, none⟩) (Kd.R_types HO209.out BK210.out (by decide)) (fun _ hk => hk.2) (.int .i64 t203)) (fun _ hk => hk.2) (.slice Ao28 t204.length co28)) (fun _ hk => hk.2) (.slice Ao29 t207.length co29)) (fun _ h_ => h_.1)))); (case side4 => exact (Kd.R_reads' HO209.out).2.1); rintro e w30 ⟨rfl, hb⟩; refine ⟨_, rfl, ?_⟩; have n0_ := Aside0.mk (Kd.R_below (by refine sqR ?_; exact (Kd.R_mono (Kd.R_far (p := ⟨gb210, 2, none⟩) (Kd.R_far (p := ⟨gb210, 1, none⟩) (Kd.R_far (p := ⟨gb210, 0, none⟩) (Kd.R_types HO198.out BK210.out (by decide)) (fun _ hk => hk.2) (.int .i64 t203)) (fun _ hk => hk.2) (.slice Ao28 t204.length co28)) (fun _ hk => hk.2) (.slice Ao29 t207.length co29)) (fun _ h_ => h_.1))) hb); have n1_ := Aside0.mk (Kd.R_below (by refine sqR ?_; exact (Kd.R_mono (Kd.R_far (p := ⟨gb210, 2, none⟩) (Kd.R_far (p := ⟨gb210, 1, none⟩) (Kd.R_far (p := ⟨gb210, 0, none⟩) (Kd.R_types HO201.out BK210.out (by decide)) (fun _ hk => hk.2) (.int .i64 t203)) (fun _ hk => hk.2) (.slice Ao28 t204.length co28)) (fun _ hk => hk.2) (.slice Ao29 t207.length co29)) (fun _ h_ => h_.1))) hb); have n2_ := Aside0.mk (Kd.R_below (by refine sqR ?_; exact (Kd.R_mono (Kd.R_far (p := ⟨gb210, 2, none⟩) (Kd.R_far (p := ⟨gb210, 1, none⟩) (Kd.R_far (p := ⟨gb210, 0, none⟩) (Kd.R_types HO206.out BK210.out (by decide)) (fun _ hk => hk.2) (.int .i64 t203)) (fun _ hk => hk.2) (.slice Ao28 t204.length co28)) (fun _ hk => hk.2) (.slice Ao29 t207.length co29)) (fun _ h_ => h_.1))) hb); have n3_ := Aside0.mk (Kd.R_below (by refine sqR ?_; exact (Kd.R_mono (Kd.R_far (p := ⟨gb210, 2, none⟩) (Kd.R_far (p := ⟨gb210, 1, none⟩) (Kd.R_far (p := ⟨gb210, 0, none⟩) (Kd.R_types HO209.out BK210.out (by decide)) (fun _ hk => hk.2) (.int .i64 t203)) (fun _ hk => hk.2) (.slice Ao28 t204.length co28)) (fun _ hk => hk.2) (.slice Ao29 t207.length co29)) (fun _ h_ => h_.1))) hb); have n4_ := Aside0.mk (blk_below (g := gb193) (o := .cells #[.int .i64 a0_0, .slice A0_1 l0_1.length c0_1, .slice A0_2 l0_2.length c0_2] 32 (0, 0)) (by refine sqK ?_; refine blk_far ?_ NB193_210.out _; refine sqK ?_; refine blk_far ?_ NB193_210.out _; refine sqK ?_; refine blk_far ?_ NB193_210.out _; refine sqK ?_; exact BK193.out) hb); have n5_ := Aside0.mk (blk_below (g := gb210) (o := .cells #[.int .i64 t203, .slice Ao28 t204.length co28, .slice Ao29 t207.length co29] 35 (0, 0)) (by refine sqK ?_; refine blk_put (cs := #[.int .i64 t203, .slice Ao28 t204.length co28, .slice none 0 0]) ?_ 2 _ rfl; refine sqK ?_; refine blk_put (cs := #[.int .i64 t203, .slice none 0 0, .slice none 0 0]) ?_ 1 _ rfl; refine sqK ?_; refine blk_put (cs := #[.int .i64 0, .slice none 0 0, .slice none 0 0]) ?_ 0 _ rfl; refine sqK ?_; exact BK210.out) hb); have n6_ := Aside0.mk (below_step sqB hb); clear HO198; clear HO201; clear HO206; clear HO209; clear BK193; clear BK210; clear HB; have HO198 := n0_; have HO201 := n1_; have HO206 := n2_; have HO209 := n3_; have BK193 := n4_; have BK210 := n5_; have HB := n6_; clear n0_ n1_ n2_ n3_ n4_ n5_ n6_; (try clear hb); (try clear hb2); (try clear hk); (try clear hi)))
        have n0_ := Aside0.mk (Kd.R_drew HO198.out)
        have n1_ := Aside0.mk (Kd.R_drew HO201.out)
        have n2_ := Aside0.mk (Kd.R_drew HO206.out)
        have n3_ := Aside0.mk (Kd.R_drew HO209.out)
        have n4_ := Aside0.mk (blk_drew BK193.out)
        have n5_ := Aside0.mk (blk_drew BK210.out)
        have n6_ := Aside0.mk (below_drew1 HB.out)
        clear HO198 HO201 HO206 HO209 BK193 BK210 HB; have HO198 := n0_; have HO201 := n1_; have HO206 := n2_; have HO209 := n3_; have BK193 := n4_; have BK210 := n5_; have HB := n6_; clear n0_ n1_ n2_ n3_ n4_ n5_ n6_
        refine start_ (n := 5) (S := fun w' => w'.cell? ⟨gb210, 0, none⟩ = some (.int .i64 t203) ∧ w'.cell? ⟨gb210, 1, none⟩ = some (.slice Ao28 t204.length co28) ∧ w'.cell? ⟨gb210, 2, none⟩ = some (.slice Ao29 t207.length co29) ∧ w'.cell? ⟨gb193, 0, none⟩ = some (.int .i64 a0_0) ∧ w'.cell? ⟨gb193, 1, none⟩ = some (.slice A0_1 l0_1.length c0_1) ∧ w'.cell? ⟨gb193, 2, none⟩ = some (.slice A0_2 l0_2.length c0_2)) (ds := []) #[false, false, false, false, false] (by kernel_rfl) rfl rfl ⟨(blk_cell BK210.out 0).trans rfl, (blk_cell BK210.out 1).trans rfl, (blk_cell BK210.out 2).trans rfl, (blk_cell BK193.out 0).trans rfl, (blk_cell BK193.out 1).trans rfl, (blk_cell BK193.out 2).trans rfl⟩ (fun hHeld => ?_)
        generalize w30.drew = w31 at HO198 HO201 HO206 HO209 BK193 BK210 HB hHeld ⊢
        refine take_ (i := 0) (N := some 22) (v := ?_) (a' := ?_) #[true, false, false, false, false] rfl rfl (by kernel_rfl) (fun _ _ _ h => h) (Or.inl ⟨by rfl, ?_⟩) hHeld ?_ ?_
        rotate_left
        · rintro w' ⟨s0, s1, s2, s3, s4, s5⟩; go_simp; with_reducible rfl
        rotate_left
        · simp only [Act.put, List.setIfInBounds_toArray, List.set_cons_zero, List.set_cons_succ, i64_w, i32_w]; rfl
        refine take_ (i := 1) (N := some 23) (v := ?_) (a' := ?_) #[true, true, false, false, false] rfl rfl (by kernel_rfl) (fun _ _ _ h => h) (Or.inl ⟨by rfl, ?_⟩) hHeld ?_ ?_
        rotate_left
        · rintro w' ⟨s0, s1, s2, s3, s4, s5⟩; go_simp; with_reducible rfl
        rotate_left
        · simp only [Act.put, List.setIfInBounds_toArray, List.set_cons_zero, List.set_cons_succ, i64_w, i32_w]; rfl
        refine one_ (i := 2) (N := some 24) #[true, true, true, false, false] rfl rfl (by kernel_rfl) (by decide) (fun K hK => ?_)
        refine goes_ Tryd.func12 (by kernel_rfl) rfl #[.agg #[.int .i64 a0_0, .slice A0_1 l0_1.length c0_1, .slice A0_2 l0_2.length c0_2]] (by rfl) rfl rfl sqM ?_
        with_reducible refine (laws_toGraph.calls k a0_0 _ _ l0_1 _ _ l0_2 t212 t213 t216 _ ?side1 ?side2 ?side3 ?side4 A12.out).mono ?_
        (case side1 => exact sqC (Kd.C_below HR0_1.out HB.out))
        (case side2 => exact HC0_1.out)
        (case side3 => exact sqC (Kd.C_below HR0_2.out HB.out))
        (case side4 => exact HC0_2.out)
        rintro e w32 ⟨v214, v217, rfl, ho0, ho1, hb⟩
        refine ⟨_, rfl, ?_⟩
        have n0_ := Aside0.mk (Kd.R_mono (Kd.R_told (Kd.R_told (Kd.R_old (sqR HO198.out) hb) (Kd.R_base ho0)) (Kd.R_base ho1)) (fun _ h_ => h_.1))
        have n1_ := Aside0.mk (Kd.R_mono (Kd.R_told (Kd.R_told (Kd.R_old (sqR HO201.out) hb) (Kd.R_base ho0)) (Kd.R_base ho1)) (fun _ h_ => h_.1))
        have n2_ := Aside0.mk (Kd.R_mono (Kd.R_told (Kd.R_told (Kd.R_old (sqR HO206.out) hb) (Kd.R_base ho0)) (Kd.R_base ho1)) (fun _ h_ => h_.1))
        have n3_ := Aside0.mk (Kd.R_mono (Kd.R_told (Kd.R_told (Kd.R_old (sqR HO209.out) hb) (Kd.R_base ho0)) (Kd.R_base ho1)) (fun _ h_ => h_.1))
        have n4_ := Aside0.mk (Kd.R_lower (Kd.R_new' (Kd.R_new' (Kd.R_new' (Kd.R_new' ho0 (Kd.R_lt (sqR HO198.out))) (Kd.R_lt (sqR HO201.out))) (Kd.R_lt (sqR HO206.out))) (Kd.R_lt (sqR HO209.out))) (below_size sqB))
        have n5_ := Aside0.mk (Kd.R_lower (Kd.R_new' (Kd.R_new' (Kd.R_new' (Kd.R_new' ho1 (Kd.R_lt (sqR HO198.out))) (Kd.R_lt (sqR HO201.out))) (Kd.R_lt (sqR HO206.out))) (Kd.R_lt (sqR HO209.out))) (below_size sqB))
        have n6_ := Aside0.mk (blk_below (g := gb193) (o := .cells #[.int .i64 a0_0, .slice A0_1 l0_1.length c0_1, .slice A0_2 l0_2.length c0_2] 32 (0, 0)) (sqK BK193.out) hb)
        have n7_ := Aside0.mk (blk_below (g := gb210) (o := .cells #[.int .i64 t203, .slice Ao28 t204.length co28, .slice Ao29 t207.length co29] 35 (0, 0)) (sqK BK210.out) hb)
        have n8_ := Aside0.mk (below_step sqB hb)
        clear HO198 HO201 HO206 HO209 BK193 BK210 HB; have HO198 := n0_; have HO201 := n1_; have HO206 := n2_; have HO209 := n3_; have HO215 := n4_; have HO218 := n5_; have BK193 := n6_; have BK210 := n7_; have HB := n8_; clear n0_ n1_ n2_ n3_ n4_ n5_ n6_ n7_ n8_; (try clear hb); (try clear hb2); (try clear hk); (try clear hi); (try clear ho0); (try clear ho1)
        obtain ⟨Ao33, co33, eo33⟩ := Kd.R_slice HO215.out
        (first | subst eo33 | (injection eo33 with f1_ f2_ f3_; have f4_ := f1_.symm; have f5_ := f3_.symm; clear f1_ f2_ f3_; subst f4_; subst f5_))
        obtain ⟨Ao34, co34, eo34⟩ := Kd.R_slice HO218.out
        (first | subst eo34 | (injection eo34 with f1_ f2_ f3_; have f4_ := f1_.symm; have f5_ := f3_.symm; clear f1_ f2_ f3_; subst f4_; subst f5_))
        refine hK.out _ _ ⟨(blk_cell BK210.out 0).trans rfl, (blk_cell BK210.out 1).trans rfl, (blk_cell BK210.out 2).trans rfl, (blk_cell BK193.out 0).trans rfl, (blk_cell BK193.out 1).trans rfl, (blk_cell BK193.out 2).trans rfl⟩ (fun hHeld => ?_)
        clear hK K
        refine norm_ (a' := ?_) ?_ ?_
        rotate_left
        · show Act.put _ (some 24) _ = _; simp only [Act.put, List.setIfInBounds_toArray, List.set_cons_zero, List.set_cons_succ, i64_w, i32_w]; rfl
        refine one_ (i := 3) (N := some 25) #[true, true, true, true, false] rfl rfl (by kernel_rfl) (by decide) (fun K hK => ?_)
        refine goes_ Tryd.func14 (by kernel_rfl) rfl #[.agg #[.int .i64 t203, .slice Ao28 t204.length co28, .slice Ao29 t207.length co29], .agg #[.int .i64 t212, .slice Ao33 t213.length co33, .slice Ao34 t216.length co34]] (by rfl) rfl rfl sqM ?_
        with_reducible refine (laws_eqGraph.calls k t203 _ _ t204 _ _ t207 t212 _ _ t213 _ _ t216 true _ ?side1 ?side2 ?side3 ?side4 ?side5 ?side6 ?side7 ?side8 A13.out).mono ?_
        (case side1 => exact sqC (Kd.R_reads' HO206.out).2.2)
        (case side2 => exact (Kd.R_reads' HO206.out).2.1)
        (case side3 => exact sqC (Kd.R_reads' HO209.out).2.2)
        (case side4 => exact (Kd.R_reads' HO209.out).2.1)
        (case side5 => exact sqC (Kd.R_reads' HO215.out).2.2)
        (case side6 => exact (Kd.R_reads' HO215.out).2.1)
        (case side7 => exact sqC (Kd.R_reads' HO218.out).2.2)
        (case side8 => exact (Kd.R_reads' HO218.out).2.1)
        rintro e w35 ⟨rfl, hb⟩
        refine ⟨_, rfl, ?_⟩
        have n0_ := Aside0.mk (Kd.R_below (sqR HO198.out) hb)
        have n1_ := Aside0.mk (Kd.R_below (sqR HO201.out) hb)
        have n2_ := Aside0.mk (Kd.R_below (sqR HO206.out) hb)
        have n3_ := Aside0.mk (Kd.R_below (sqR HO209.out) hb)
        have n4_ := Aside0.mk (Kd.R_below (sqR HO215.out) hb)
        have n5_ := Aside0.mk (Kd.R_below (sqR HO218.out) hb)
        have n6_ := Aside0.mk (blk_below (g := gb193) (o := .cells #[.int .i64 a0_0, .slice A0_1 l0_1.length c0_1, .slice A0_2 l0_2.length c0_2] 32 (0, 0)) (sqK BK193.out) hb)
        have n7_ := Aside0.mk (blk_below (g := gb210) (o := .cells #[.int .i64 t203, .slice Ao28 t204.length co28, .slice Ao29 t207.length co29] 35 (0, 0)) (sqK BK210.out) hb)
        have n8_ := Aside0.mk (below_step sqB hb)
        clear HO198 HO201 HO206 HO209 HO215 HO218 BK193 BK210 HB; have HO198 := n0_; have HO201 := n1_; have HO206 := n2_; have HO209 := n3_; have HO215 := n4_; have HO218 := n5_; have BK193 := n6_; have BK210 := n7_; have HB := n8_; clear n0_ n1_ n2_ n3_ n4_ n5_ n6_ n7_ n8_; (try clear hb); (try clear hb2); (try clear hk); (try clear hi)
        refine hK.out _ _ ⟨(blk_cell BK210.out 0).trans rfl, (blk_cell BK210.out 1).trans rfl, (blk_cell BK210.out 2).trans rfl, (blk_cell BK193.out 0).trans rfl, (blk_cell BK193.out 1).trans rfl, (blk_cell BK193.out 2).trans rfl⟩ (fun hHeld => ?_)
        clear hK K
        refine norm_ (a' := ?_) ?_ ?_
        rotate_left
        · show Act.put _ (some 25) _ = _; simp only [Act.put, List.setIfInBounds_toArray, List.set_cons_zero, List.set_cons_succ, i64_w, i32_w]; rfl
        refine pure_ (i := 4) (N := some 26) (v := ?_) (a' := ?_) #[true, true, true, true, true] rfl rfl (by kernel_rfl) (fun _ _ _ h => h) (Or.inl ⟨by rfl, ?_⟩) ?_ ?_
        rotate_left
        · intro w'; go_simp; with_reducible rfl
        rotate_left
        · simp only [Act.put, List.setIfInBounds_toArray, List.set_cons_zero, List.set_cons_succ, i64_w, i32_w]; rfl
        refine done_ (by kernel_rfl) ?_
        try go_wp2
        go_ret
        exact ⟨sqE, sqB⟩
      · replace c14 := Bool.eq_false_iff.mpr c14
        subst c14
        have H1 : (none) = some r := by rw [if_neg (show ¬ (false = true) by decide)] at H; exact H
        clear H
        have H := H1
        clear H1
        exact absurd H (by simp)
    · rw [if_neg c11] at H
      exact absurd H (by simp)

end Go.Proofs.YtopkfhnnapncgaaDoor.F
end
section
namespace Go.Proofs.YtopkfhnnapncgaaDoor.Mt
def sdiff (a b : Nat) : Nat := a ^^^ (a &&& b)
theorem bit_sdiff (a b i : Nat) : (sdiff a b).testBit i = (a.testBit i && !b.testBit i) := by
  simp [sdiff, Nat.testBit_xor, Nat.testBit_and]; cases a.testBit i <;> cases b.testBit i <;> rfl
def elems (s : Nat) : List Nat := (List.range 8).filter s.testBit
theorem mem_elems {s e : Nat} : e ∈ elems s ↔ e < 8 ∧ s.testBit e = true := by simp [elems]
end Go.Proofs.YtopkfhnnapncgaaDoor.Mt
end
section
namespace Go.Proofs.YtopkfhnnapncgaaDoor.Bits
open Go.Proofs.YtopkfhnnapncgaaDoor.Mt (sdiff bit_sdiff)
open Go.RowKit Go.Proofs.YtopkfhnnapncgaaDoorW.PrintWords Go.Proofs.YtopkfhnnapncgaaDoorW.PrintLast Go.Proofs.YtopkfhnnapncgaaDoorW.PrintMore

theorem wrap_in {n : Int} (h0 : -9223372036854775808 ≤ n) (h1 : n < 9223372036854775808) : wrap64 n = n := by unfold wrap64; omega
end Go.Proofs.YtopkfhnnapncgaaDoor.Bits
end
section
namespace Go.Proofs.YtopkfhnnapncgaaDoor.L
open Go.RowKit Go.Proofs.YtopkfhnnapncgaaDoorW.PrintWords Go.Proofs.YtopkfhnnapncgaaDoorW.PrintLast Go.Proofs.YtopkfhnnapncgaaDoorW.PrintMore
open Go.Proofs.YtopkfhnnapncgaaDoor.Bits

theorem Ev.succ {α : Type} {g : Nat → Option α} {r : α} (h : Ev (fun k => g (k + 1)) r) : Ev g r := Ev.step (fun _ => rfl) h
theorem Ev.some {α : Type} {r s : α} (h : r = s) : Ev (fun _ => Option.some r) s := h ▸ Ev.now r
theorem wrap_succ {i : Nat} (h : i < 9223372036854775807) : wrap64 ((i : Int) + 1) = ((i + 1 : Nat) : Int) := wrap_in (by omega) (by omega)

/-- A loop that asks of all places, and says no at the first that fails. -/
theorem loop_all (L : Nat → Int → Option Bool) (n : Nat) (p : Nat → Bool) (hend : ∀ k, L (k + 1) (n : Int) = some true)
    (hstep : ∀ i, i < n → ∀ k, L (k + 1) (i : Int) = if p i = true then L k ((i + 1 : Nat) : Int) else some false) :
    ∀ d i, i + d = n → Ev (fun k => L k (i : Int)) ((List.range' i d).all p)
  | 0, i, hd => by
    obtain rfl : i = n := by omega
    refine Ev.succ ?_
    simp only [hend]; exact Ev.now _
  | d + 1, i, hd => by
    refine Ev.succ ?_
    rw [List.range'_succ, List.all_cons]
    simp only [hstep i (by omega)]
    cases hp : p i
    · simp only [Bool.false_eq_true, if_false, Bool.false_and]; exact Ev.now _
    · simp only [if_true, Bool.true_and]; exact loop_all L n p hend hstep d (i + 1) (by omega)
theorem loop_all0 (L : Nat → Int → Option Bool) (n : Nat) (p : Nat → Bool) (hend : ∀ k, L (k + 1) (n : Int) = some true)
    (hstep : ∀ i, i < n → ∀ k, L (k + 1) (i : Int) = if p i = true then L k ((i + 1 : Nat) : Int) else some false) :
    Ev (fun k => L k 0) ((List.range n).all p) := by
  rw [List.range_eq_range']; exact loop_all L n p hend hstep n 0 (by omega)
/-- A loop that gathers: at each place the state takes a step; an invariant goes along. -/
theorem loop_fold {σ ρ : Type} (L : Nat → σ → Int → Option ρ) (n : Nat) (step : σ → Nat → σ) (inv : Nat → σ → Prop) (fin : σ → ρ)
    (hend : ∀ s, inv n s → Ev (fun k => L (k + 1) s (n : Int)) (fin s))
    (hstep : ∀ i s, i < n → inv i s → inv (i + 1) (step s i) ∧ ∀ r, Ev (fun k => L k (step s i) ((i + 1 : Nat) : Int)) r → Ev (fun k => L (k + 1) s (i : Int)) r) :
    ∀ d i s, i + d = n → inv i s → Ev (fun k => L k s (i : Int)) (fin ((List.range' i d).foldl step s))
  | 0, i, s, hd, hi => by
    obtain rfl : i = n := by omega
    exact Ev.succ (hend s hi)
  | d + 1, i, s, hd, hi => by
    refine Ev.succ ?_
    obtain ⟨h1, h2⟩ := hstep i s (by omega) hi
    exact h2 _ (loop_fold L n step inv fin hend hstep d (i + 1) (step s i) (by omega) h1)
theorem loop_fold0 {σ ρ : Type} (L : Nat → σ → Int → Option ρ) (n : Nat) (step : σ → Nat → σ) (inv : Nat → σ → Prop) (fin : σ → ρ)
    (hend : ∀ s, inv n s → Ev (fun k => L (k + 1) s (n : Int)) (fin s))
    (hstep : ∀ i s, i < n → inv i s → inv (i + 1) (step s i) ∧ ∀ r, Ev (fun k => L k (step s i) ((i + 1 : Nat) : Int)) r → Ev (fun k => L (k + 1) s (i : Int)) r) (s : σ) (h : inv 0 s) :
    Ev (fun k => L k s 0) (fin ((List.range n).foldl step s)) := by
  rw [List.range_eq_range']; exact loop_fold L n step inv fin hend hstep n 0 s (by omega) h

/-- A loop that gathers, and what stands behind it. -/
theorem loop_reach {σ ρ : Type} (L : Nat → σ → Int → Option ρ) (n : Nat) (step : σ → Nat → σ) (inv : Nat → σ → Prop)
    (hstep : ∀ i s, i < n → inv i s → inv (i + 1) (step s i) ∧ ∀ r, Ev (fun k => L k (step s i) ((i + 1 : Nat) : Int)) r → Ev (fun k => L (k + 1) s (i : Int)) r) (s : σ) (h : inv 0 s) :
    inv n ((List.range n).foldl step s) ∧ ∀ r, Ev (fun k => L k ((List.range n).foldl step s) (n : Int)) r → Ev (fun k => L k s 0) r := by
  have key : ∀ d i s, i + d = n → inv i s → inv n ((List.range' i d).foldl step s) ∧ ∀ r, Ev (fun k => L k ((List.range' i d).foldl step s) (n : Int)) r → Ev (fun k => L k s (i : Int)) r := by
    intro d
    induction d with
    | zero => intro i s hd hi; obtain rfl : i = n := by omega
              exact ⟨hi, fun r h => h⟩
    | succ d ih =>
      intro i s hd hi
      obtain ⟨h1, h2⟩ := hstep i s (by omega) hi
      obtain ⟨h3, h4⟩ := ih (i + 1) (step s i) (by omega) h1
      rw [List.range'_succ, List.foldl_cons]
      exact ⟨h3, fun r h => Ev.succ (h2 r (h4 r h))⟩
  rw [List.range_eq_range']
  exact key n 0 s (by omega) h
theorem rd_getD (l : List Int) (j : Nat) : rd l (j : Int) = l.getD j 0 := by simp [rd]
end Go.Proofs.YtopkfhnnapncgaaDoor.L
end
section
namespace Go.Proofs.YtopkfhnnapncgaaDoor.L
open Go.RowKit Go.Proofs.YtopkfhnnapncgaaDoor.F Go.Proofs.YtopkfhnnapncgaaDoorW.PrintWords Go.Proofs.YtopkfhnnapncgaaDoorW.PrintLast Go.Proofs.YtopkfhnnapncgaaDoorW.PrintMore
open Go.Proofs.YtopkfhnnapncgaaDoor.Bits

theorem all_eq_range (l l' : List Int) (h : l.length = l'.length) : (List.range l.length).all (fun i => decide (l.getD i 0 = l'.getD i 0)) = decide (l = l') := by
  rw [Bool.eq_iff_iff, List.all_eq_true, decide_eq_true_iff]
  constructor
  · intro hh
    apply List.ext_getElem h
    intro i h1 h2
    have := hh i (by simpa using h1)
    simpa [List.getElem?_eq_getElem h1, List.getElem?_eq_getElem h2] using this
  · rintro rfl i _
    simp

theorem eqIntS (l l' : List Int) (h : l.length ≤ 17592186044416) : Ev (fun k => laws_eqIntS.f k l l') (decide (l = l')) := by
  unfold laws_eqIntS.f
  by_cases e : l.length = l'.length
  · simp only [show ((l.length : Int) = (l'.length : Int)) by omega, if_true]
    rw [← all_eq_range l l' e]
    refine loop_all0 _ _ _ (fun k => by simp only [laws_eqIntS.l0, show ¬ ((l.length : Int) < (l.length : Int)) by omega, if_false]) ?_
    intro i hi k
    simp only [laws_eqIntS.l0, show ((i : Int) < (l.length : Int)) by omega, show ((i : Int) < (l'.length : Int)) by omega, show (0 : Int) ≤ (i : Int) by omega, if_true, rd_getD, wrap_succ (show i < 9223372036854775807 by omega), decide_eq_true_eq]
  · simp only [show ¬ ((l.length : Int) = (l'.length : Int)) by omega, if_false]
    rw [show decide (l = l') = false by simp; rintro rfl; exact e rfl]
    exact Ev.now _

theorem szIntS (l : List Int) (n : Int) (h : l.length ≤ 17592186044416) (h0 : 0 ≤ n) (h1 : n ≤ 1048576) : laws_szIntS.f l n = some (if n < l.length then -1 else n - l.length) := by
  unfold laws_szIntS.f
  have hw : wrap64 (n - (l.length : Int)) = n - (l.length : Int) := wrap_in (by omega) (by omega)
  rw [hw]
  split
  · rw [if_pos (by omega)]
  · rw [if_neg (by omega)]
theorem fold_copy (l : List Int) : ∀ n, n ≤ l.length → (List.range n).foldl (fun a i => a.set i (l.getD i 0)) (List.replicate l.length 0) = l.take n ++ List.replicate (l.length - n) 0
  | 0, _ => by simp
  | n + 1, h => by
    rw [List.range_succ, List.foldl_append, fold_copy l n (by omega)]
    simp only [List.foldl_cons, List.foldl_nil]
    obtain ⟨m, hm⟩ : ∃ m, l.length - n = m + 1 := ⟨l.length - n - 1, by omega⟩
    rw [hm, List.replicate_succ, List.set_append_right _ _ (by simp; omega)]
    have : n - (List.take n l).length = 0 := by simp; omega
    rw [this, List.set_cons_zero, show l.length - (n + 1) = m by omega]
    have hg : l.getD n 0 = l[n] := by simp [List.getElem?_eq_getElem (show n < l.length by omega)]
    rw [List.take_succ_eq_append_getElem (by omega), List.append_assoc, List.singleton_append, hg]

theorem toIntS (l : List Int) (h : l.length ≤ 17592186044416) : Ev (fun k => laws_toIntS.f k l) l := by
  unfold laws_toIntS.f
  simp only [show (0 : Int) ≤ (l.length : Int) by omega, Int.toNat_natCast, show l.length ≤ 35184372088832 by omega, if_true]
  have key := loop_fold0 (fun k s i => laws_toIntS.l0 k l s i) l.length (fun a i => a.set i (l.getD i 0)) (fun _ s => s.length = l.length) id
    (fun s hs => by
      simp only [laws_toIntS.l0, show ¬ ((l.length : Int) < (l.length : Int)) by omega, if_false]
      exact Ev.now _)
    (fun i s hi hs => ⟨by simp [hs], fun r hr => by
      simp only [laws_toIntS.l0, show ((i : Int) < (l.length : Int)) by omega, show ((i : Int) < (s.length : Int)) by omega, show (0 : Int) ≤ (i : Int) by omega, if_true, Int.toNat_natCast, rd_getD, wrap_succ (show i < 9223372036854775807 by omega)]
      exact hr⟩) (List.replicate l.length 0) (by simp)
  rw [fold_copy l l.length (Nat.le_refl _)] at key
  simpa using key
end Go.Proofs.YtopkfhnnapncgaaDoor.L
end
section
namespace Go.Proofs.YtopkfhnnapncgaaDoor.L
open Go.RowKit Go.Proofs.YtopkfhnnapncgaaDoor.F Go.Proofs.YtopkfhnnapncgaaDoorW.PrintWords Go.Proofs.YtopkfhnnapncgaaDoorW.PrintLast Go.Proofs.YtopkfhnnapncgaaDoorW.PrintMore
open Go.Proofs.YtopkfhnnapncgaaDoor.Bits
set_option linter.unusedSimpArgs false
set_option linter.unusedVariables false
def dg (n : Nat) : ByteArray := ⟨#[UInt8.ofNat (48 + n)]⟩
theorem dg_size (n : Nat) : (dg n).size = 1 := rfl
theorem Format_i {n : Nat} (h : n < 10) : impl_FormatInt.f (n : Int) = some (dg n) := by
  unfold impl_FormatInt.f
  rw [if_pos (by omega), Int.toNat_natCast, Lib.decDigits, dif_pos h]
  rfl
theorem nums_dg {n : Nat} (h : n < 10) : strOfNums [((48 + n : Nat) : Int)] = dg n := by
  have h1 := Lib.Lz.strOfNums_map [UInt8.ofNat (48 + n)]
  have h2 : (UInt8.ofNat (48 + n)).toNat = 48 + n := by rw [UInt8.toNat_ofNat']; omega
  rw [List.map_cons, List.map_nil, h2] at h1
  exact h1
theorem Format_s {n : Nat} (h : n < 10) : Ev (fun k => spec_FormatInt.f k (n : Int)) (dg n) := by
  unfold spec_FormatInt.f
  by_cases h0 : n = 0
  · subst h0
    simp only [show (((0 : Nat) : Int) = 0) from rfl, if_true]; exact Ev.now _
  have e1 : Int.tmod (n : Int) 10 = n := by rw [Int.tmod_eq_emod_of_nonneg (by omega)]; omega
  have e2 : Int.tdiv (n : Int) 10 = 0 := by rw [Int.tdiv_eq_ediv_of_nonneg (by omega)]; omega
  have e3 : wrap64 (48 + (n : Int)) % 256 = ((48 + n : Nat) : Int) := by rw [wrap_in (by omega) (by omega)]; omega
  have e5 : wrap64 (0 : Int) = 0 := wrap_in (by omega) (by omega)
  have e6 : decide ((n : Int) < 0) = false := decide_eq_false (by omega)
  simp only [if_neg (show ¬ ((n : Int) = 0) by omega)]
  refine Ev.succ ?_
  simp only [spec_FormatInt.l0, if_neg (show ¬ ((n : Int) = 0) by omega), e1, if_neg (show ¬ ((n : Int) < 0) by omega), Option.bind_some, e3, nums_dg h, e2, e5, e6, dg_size]
  rw [show (⟨#[]⟩ : ByteArray).size = 0 from rfl, show dg n ++ (⟨#[]⟩ : ByteArray) = dg n from ByteArray.append_empty]
  simp only [show (1 + 0 ≤ 9223372036854775807) by omega, if_true]
  refine Ev.succ ?_
  simp only [spec_FormatInt.l0, if_true, Bool.false_eq_true, if_false]
  exact Ev.now _
end Go.Proofs.YtopkfhnnapncgaaDoor.L
end
section
namespace Go.Proofs.YtopkfhnnapncgaaDoor.L
open Go.RowKit Go.Proofs.YtopkfhnnapncgaaDoor.F Go.Proofs.YtopkfhnnapncgaaDoorW.PrintWords Go.Proofs.YtopkfhnnapncgaaDoorW.PrintLast Go.Proofs.YtopkfhnnapncgaaDoorW.PrintMore
open Go.Proofs.YtopkfhnnapncgaaDoor.Bits
open Go.Proofs.YtopkfhnnapncgaaDoor.Mt (sdiff bit_sdiff elems mem_elems)

theorem l1In (x a b : Int) : spec_l1In.f x a b = some (decide (a ≤ x ∧ x ≤ b)) := by
  unfold spec_l1In.f
  split <;> simp <;> omega

end Go.Proofs.YtopkfhnnapncgaaDoor.L
end
section
namespace Go.Proofs.YtopkfhnnapncgaaDoor.L
open Go.RowKit Go.Proofs.YtopkfhnnapncgaaDoor.F Go.Proofs.YtopkfhnnapncgaaDoorW.PrintWords Go.Proofs.YtopkfhnnapncgaaDoorW.PrintLast Go.Proofs.YtopkfhnnapncgaaDoorW.PrintMore
open Go.Proofs.YtopkfhnnapncgaaDoor.Bits
set_option linter.unusedSimpArgs false
set_option linter.unusedVariables false
/-- What a graph is: vertices from 0 to 6, at most eight edges, the ends among the vertices. -/
def isGraph (v : Int) (a b : List Int) : Bool :=
  decide (0 ≤ v ∧ v ≤ 6 ∧ a.length ≤ 8 ∧ a.length = b.length) && (List.range a.length).all fun i => decide (0 ≤ a.getD i 0 ∧ a.getD i 0 < v ∧ 0 ≤ b.getD i 0 ∧ b.getD i 0 < v)
theorem IsGraph_s (v : Int) (a b : List Int) : Ev (fun k => spec_IsGraph.f k v a b) (isGraph v a b) := by
  have no : ∀ v a b, Ev (fun k => spec_IsGraph.j0 k true v a b) false := fun v a b => Ev.succ (by simp only [spec_IsGraph.j0, if_true]; exact Ev.now _)
  unfold spec_IsGraph.f isGraph
  simp only [l1In, Option.bind_some, decide_eq_true_eq]
  by_cases hv : 0 ≤ v ∧ v ≤ 6
  · simp only [hv, and_self, if_true, true_and]
    by_cases h8 : a.length ≤ 8
    · simp only [show ¬ ((a.length : Int) > 8) by omega, if_false, h8, true_and]
      by_cases he : a.length = b.length
      · rw [show ((a.length : Int) != (b.length : Int)) = false by simp; omega]
        refine Ev.succ ?_
        simp only [spec_IsGraph.j0, Bool.false_eq_true, if_false, he, decide_true, Bool.true_and]
        rw [← he]
        refine loop_all0 (fun k i => spec_IsGraph.l0 k i v a b) _ _ (fun k => by simp only [spec_IsGraph.l0, show ¬ ((a.length : Int) < (a.length : Int)) by omega, if_false]) ?_
        intro i hi k
        have hw : wrap64 (v - 1) = v - 1 := wrap_in (by omega) (by omega)
        simp only [spec_IsGraph.l0, show ((i : Int) < (a.length : Int)) by omega, show ((i : Int) < (b.length : Int)) by omega, show (0 : Int) ≤ (i : Int) by omega, if_true, rd_getD, wrap_succ (show i < 9223372036854775807 by omega), l1In, hw, Option.bind_some, decide_eq_true_eq]
        generalize a.getD i 0 = x
        generalize b.getD i 0 = y
        by_cases h1 : 0 ≤ x ∧ x ≤ v - 1
        · rw [if_pos h1]
          by_cases h2 : 0 ≤ y ∧ y ≤ v - 1
          · rw [if_pos h2, if_pos (by omega)]
          · rw [if_neg h2, if_neg (by omega)]
        · rw [if_neg h1, if_neg (by omega)]
      · rw [show ((a.length : Int) != (b.length : Int)) = true by simp; omega]
        simp only [he, decide_false, Bool.false_and]
        exact no _ _ _
    · simp only [show ((a.length : Int) > 8) by omega, if_true, h8, false_and, decide_false, Bool.false_and]
      exact no _ _ _
  · simp only [hv, if_false, show ¬ (0 ≤ v ∧ v ≤ 6 ∧ a.length ≤ 8 ∧ a.length = b.length) by omega, decide_false, Bool.false_and]
    exact no _ _ _
theorem IsGraph_i (v : Int) (a b : List Int) : Ev (fun k => impl_IsGraph.f k v a b) (isGraph v a b) := by
  have no : ∀ v a b, Ev (fun k => impl_IsGraph.j0 k true v a b) false := fun v a b => Ev.succ (by simp only [impl_IsGraph.j0, if_true]; exact Ev.now _)
  unfold impl_IsGraph.f isGraph
  by_cases hv : 0 ≤ v ∧ v ≤ 6
  · simp only [show ¬ v < 0 by omega, show ¬ v > 6 by omega, if_false, hv, true_and]
    by_cases h8 : a.length ≤ 8
    · simp only [show ¬ ((a.length : Int) > 8) by omega, if_false, h8, true_and]
      by_cases he : a.length = b.length
      · rw [show ((a.length : Int) != (b.length : Int)) = false by simp; omega]
        refine Ev.succ ?_
        simp only [impl_IsGraph.j0, Bool.false_eq_true, if_false, he, decide_true, Bool.true_and]
        rw [← he]
        refine loop_all0 (fun k i => impl_IsGraph.l0 k (a.length : Int) i v a b) _ _ (fun k => by simp only [impl_IsGraph.l0, show ¬ ((a.length : Int) < (a.length : Int)) by omega, if_false]) ?_
        intro i hi k
        simp only [impl_IsGraph.l0, show ((i : Int) < (a.length : Int)) by omega, show ((i : Int) < (b.length : Int)) by omega, show (0 : Int) ≤ (i : Int) by omega, if_true, rd_getD, wrap_succ (show i < 9223372036854775807 by omega), decide_eq_true_eq]
        generalize a.getD i 0 = x
        generalize b.getD i 0 = y
        by_cases h1 : x < 0
        · rw [if_pos h1, if_neg (by omega)]
        rw [if_neg h1]
        by_cases h2 : x ≥ v
        · rw [if_pos h2, if_neg (by omega)]
        rw [if_neg h2]
        by_cases h3 : y < 0
        · rw [if_pos h3, if_neg (by omega)]
        rw [if_neg h3]
        by_cases h4 : y ≥ v
        · rw [if_pos h4, if_neg (by omega)]
        rw [if_neg h4, if_pos (by omega)]
      · rw [show ((a.length : Int) != (b.length : Int)) = true by simp; omega]
        simp only [he, decide_false, Bool.false_and]
        exact no _ _ _
    · simp only [show ((a.length : Int) > 8) by omega, if_true, h8, false_and, decide_false, Bool.false_and]
      exact no _ _ _
  · simp only [show ¬ (0 ≤ v ∧ v ≤ 6 ∧ a.length ≤ 8 ∧ a.length = b.length) by omega, decide_false, Bool.false_and]
    by_cases h1 : v < 0
    · simp only [h1, if_true]; exact no _ _ _
    · simp only [h1, if_false, show v > 6 by omega, if_true]; exact no _ _ _
theorem toGraph (v : Int) (a b : List Int) (ha : a.length ≤ 17592186044416) (hb : b.length ≤ 17592186044416) : Ev (fun k => laws_toGraph.f k v a b) (v, a, b) := by
  unfold laws_toGraph.f
  exact Ev.bind (toIntS a ha) (Ev.bind (toIntS b hb) (Ev.now _))
theorem eqGraph (v : Int) (a b : List Int) (ha : a.length ≤ 17592186044416) (hb : b.length ≤ 17592186044416) : Ev (fun k => laws_eqGraph.f k v a b v a b) true := by
  unfold laws_eqGraph.f
  simp only [if_true]
  refine Ev.bind (eqIntS a a ha) ?_
  simp only [decide_true, if_true]
  refine Ev.bind (eqIntS b b hb) ?_
  simp only [decide_true, if_true]
  exact Ev.now _
theorem szGraph (v : Int) (a b : List Int) (ha : a.length ≤ 17592186044416) (hb : b.length ≤ 17592186044416) : ∃ n, laws_szGraph.f v a b 1048576 = some n ∧ (n < 0 ∨ (0 ≤ n ∧ n ≤ 1048576 ∧ a.length ≤ 1048576 ∧ b.length ≤ 1048576)) := by
  unfold laws_szGraph.f
  rw [szIntS a _ ha (by decide) (by decide)]
  simp only [Option.bind_some]
  by_cases h1 : (1048576 : Int) < (a.length : Int)
  · rw [if_pos h1, if_pos (by decide)]; exact ⟨_, rfl, .inl (by decide)⟩
  · rw [if_neg h1, if_neg (by omega), szIntS b _ hb (by omega) (by omega)]
    simp only [Option.bind_some]
    by_cases h2 : (1048576 : Int) - (a.length : Int) < (b.length : Int)
    · rw [if_pos h2, if_pos (by decide)]; exact ⟨_, rfl, .inl (by decide)⟩
    · rw [if_neg h2, if_neg (by omega)]; exact ⟨_, rfl, .inr (by omega)⟩
/-- What a graph holds, in natural numbers. -/
theorem graph_parts {v : Int} {a b : List Int} (h : isGraph v a b = true) : ∃ V : Nat, v = V ∧ V ≤ 6 ∧ a.length ≤ 8 ∧ a.length = b.length ∧ ∀ i, i < a.length → (0 ≤ a.getD i 0 ∧ a.getD i 0 < V ∧ 0 ≤ b.getD i 0 ∧ b.getD i 0 < V) := by
  unfold isGraph at h
  simp only [Bool.and_eq_true, decide_eq_true_eq] at h
  obtain ⟨⟨h1, h2, h3, h4⟩, h5⟩ := h
  obtain ⟨V, rfl⟩ := Int.eq_ofNat_of_zero_le h1
  refine ⟨V, rfl, by omega, h3, h4, fun i hi => ?_⟩
  have := List.all_eq_true.1 h5 i (by simpa using hi)
  simpa using this
end Go.Proofs.YtopkfhnnapncgaaDoor.L
end
section
namespace Go.Proofs.YtopkfhnnapncgaaDoor.L
open Go.RowKit Go.Proofs.YtopkfhnnapncgaaDoor.F Go.Proofs.YtopkfhnnapncgaaDoorW.PrintWords Go.Proofs.YtopkfhnnapncgaaDoorW.PrintLast Go.Proofs.YtopkfhnnapncgaaDoorW.PrintMore
open Go.Proofs.YtopkfhnnapncgaaDoor.Bits
set_option linter.unusedSimpArgs false
set_option linter.unusedVariables false
def nums (l : List UInt8) : List Int := l.map fun b => (b.toNat : Int)
theorem nums_app (x y : List UInt8) : nums (x ++ y) = nums x ++ nums y := List.map_append ..
theorem bytesOf_nums (a : ByteArray) : bytesOf a = nums a.data.toList := rfl
theorem joinOf_one (x a : ByteArray) : joinOf [x] a = x.data.toList := Lib.join_one _ _
theorem joinOf_snoc (l : List ByteArray) (y a : ByteArray) (h : l ≠ []) : joinOf (l ++ [y]) a = joinOf l a ++ a.data.toList ++ y.data.toList := by
  cases l with
  | nil => exact absurd rfl h
  | cons x r =>
    unfold joinOf
    rw [List.cons_append, List.map_cons, List.map_cons, Lib.join_cons, Lib.join_cons, List.map_append]
    simp [Lib.joinTail]
theorem size_data (a : ByteArray) : a.data.toList.length = a.size := rfl
section
variable {l : List ByteArray} {a : ByteArray}
def jstep (l : List ByteArray) (a : ByteArray) (s : List Int) (i : Nat) : List Int := (if i = 0 then s else s ++ bytesOf a) ++ bytesOf (l.getD i ByteArray.empty)
theorem jstep_is (i : Nat) (hi : i < l.length) (s : List Int) (h : s = nums (joinOf (l.take i) a)) : jstep l a s i = nums (joinOf (l.take (i + 1)) a) := by
  subst h
  rw [List.take_succ_eq_append_getElem hi]
  unfold jstep
  have hg : l.getD i ByteArray.empty = l[i] := by simp [List.getD_eq_getElem?_getD, List.getElem?_eq_getElem hi]
  rw [hg]
  by_cases h0 : i = 0
  · subst h0
    rw [if_pos rfl, List.take_zero, List.nil_append, joinOf_one]
    rfl
  · rw [if_neg h0, joinOf_snoc _ _ _ (by intro h; have := congrArg List.length h; rw [List.length_take, List.length_nil] at this; omega), nums_app, nums_app]
    rfl
theorem Join_s (hl : l.length ≤ 8) (ha : a.size ≤ 1) (hx : ∀ x ∈ l, x.size ≤ 4) : (joinOf l a).length ≤ 40 ∧ Ev (fun k => spec_Join.f k l a) ⟨(joinOf l a).toArray⟩ := by
  have hsz : ∀ i, i < l.length → (l.getD i ByteArray.empty).size ≤ 4 := fun i hi => by
    have hg : l.getD i ByteArray.empty = l[i] := by simp [List.getD_eq_getElem?_getD, List.getElem?_eq_getElem hi]
    rw [hg]; exact hx _ (List.getElem_mem hi)
  have hb : ∀ x : ByteArray, (bytesOf x).length = x.size := fun x => by rw [bytesOf_nums, nums, List.length_map, size_data]
  have key := loop_reach (fun k s i => spec_Join.l0 k l a s i) l.length (jstep l a) (fun i s => s = nums (joinOf (l.take i) a) ∧ s.length ≤ 5 * i)
    (fun i s hi hs => by
      have h1 := hsz i hi
      refine ⟨⟨jstep_is i hi s hs.1, ?_⟩, fun r hr => ?_⟩
      · unfold jstep
        split <;> simp only [List.length_append, hb] <;> omega
      · have hrd : rdOf ByteArray.empty l (i : Int) = l.getD i ByteArray.empty := by unfold rdOf; rw [Int.toNat_natCast]
        simp only [spec_Join.l0, show ((i : Int) < (l.length : Int)) by omega, if_true, hrd, show (0 : Int) ≤ (i : Int) by omega, wrap_succ (show i < 9223372036854775807 by omega)]
        have hl1 := hs.2
        unfold jstep at hr
        by_cases h0 : i = 0
        · subst h0
          rw [if_pos rfl] at hr
          simp only [show ¬ (((0 : Nat) : Int) > 0) by omega, if_false, show s.length + (l.getD 0 ByteArray.empty).size < 140737488355328 by omega, if_true]
          exact hr
        · rw [if_neg h0] at hr
          simp only [show ((i : Int) > 0) by omega, if_true, show s.length + a.size < 140737488355328 by omega, Option.bind_some, List.length_append, hb, show s.length + a.size + (l.getD i ByteArray.empty).size < 140737488355328 by omega]
          exact hr) [] ⟨rfl, by simp⟩
  have hk := key.1
  rw [List.take_length] at hk
  have hlen : (joinOf l a).length ≤ 40 := by
    have := hk.2
    rw [hk.1, nums, List.length_map] at this
    omega
  refine ⟨hlen, ?_⟩
  unfold spec_Join.f
  refine key.2 _ (Ev.succ ?_)
  simp only [spec_Join.l0, show ¬ ((l.length : Int) < (l.length : Int)) by omega, if_false]
  rw [hk.1]
  refine Ev.some ?_
  exact Lib.Lz.strOfNums_map _
theorem Join_i (hl : l.length ≤ 8) (ha : a.size ≤ 1) (hx : ∀ x ∈ l, x.size ≤ 4) : impl_Join.f l a = some ⟨(joinOf l a).toArray⟩ := by
  have := (Join_s hl ha hx).1
  unfold impl_Join.f
  rw [if_pos ⟨by omega, by omega⟩]
end
def edge (a b : List Int) (i : Nat) : ByteArray := dg (a.getD i 0).toNat ++ dg (b.getD i 0).toNat
def estep (a b : List Int) (s : List ByteArray) (i : Nat) : List ByteArray := s ++ [edge a b i]
def none4 : ByteArray := ⟨#[110, 111, 110, 101]⟩
def nameT (s : List ByteArray) : List ByteArray := if s.length = 0 then [none4] else s
def textT (V : Nat) (s : List ByteArray) : ByteArray := dg V ++ ⟨#[32]⟩ ++ ⟨(joinOf (nameT s) ⟨#[44]⟩).toArray⟩
def graphT (v : Int) (a b : List Int) : ByteArray := if isGraph v a b = true then textT v.toNat ((List.range a.length).foldl (estep a b) []) else ⟨#[]⟩
def Small (i : Nat) (s : List ByteArray) : Prop := s.length = i ∧ ∀ x ∈ s, x.size ≤ 4
theorem edge_size (a b : List Int) (i : Nat) : (edge a b i).size = 2 := by rw [edge, ByteArray.size_append, dg_size, dg_size]
theorem small_step {i : Nat} {s : List ByteArray} (a b : List Int) (h : Small i s) : Small (i + 1) (estep a b s i) := by
  refine ⟨by rw [estep, List.length_append, h.1]; rfl, fun x hx => ?_⟩
  rcases List.mem_append.1 hx with h1 | h1
  · exact h.2 x h1
  · rw [List.mem_singleton.1 h1, edge_size]; omega
theorem name_small {n : Nat} {s : List ByteArray} (h : Small n s) (hn : n ≤ 8) : (nameT s).length ≤ 8 ∧ ∀ x ∈ nameT s, x.size ≤ 4 := by
  unfold nameT
  split
  · exact ⟨by simp, fun x hx => by rw [List.mem_singleton.1 hx]; exact Nat.le_refl 4⟩
  · exact ⟨by rw [h.1]; exact hn, h.2⟩
theorem text_size {n : Nat} {s : List ByteArray} (h : Small n s) (hn : n ≤ 8) : (⟨(joinOf (nameT s) ⟨#[44]⟩).toArray⟩ : ByteArray).size ≤ 40 := by
  have := (Join_s (a := ⟨#[44]⟩) (name_small h hn).1 (by decide) (name_small h hn).2).1
  show (joinOf (nameT s) ⟨#[44]⟩).toArray.size ≤ 40
  rw [List.size_toArray]; exact this
theorem GraphText_s (v : Int) (a b : List Int) : Ev (fun k => spec_GraphText.f k v a b) (graphT v a b) := by
  unfold spec_GraphText.f graphT
  refine Ev.bind (IsGraph_s v a b) ?_
  cases h : isGraph v a b
  · simp only [Bool.false_eq_true, if_false]; exact Ev.now _
  obtain ⟨V, rfl, hV, h8, hab, hx⟩ := graph_parts h
  simp only [if_true, Int.toNat_natCast]
  refine loop_fold0 (fun k s i => spec_GraphText.l0 k s i (V : Int) a b) a.length (estep a b) (fun i s => Small i s) (textT V) (fun s hs => ?_) (fun i s hi hs => ⟨small_step a b hs, fun r hr => ?_⟩) [] ⟨rfl, by simp⟩
  · have hsm := name_small hs h8
    have hts := text_size hs h8
    have hJ := (Join_s (a := ⟨#[44]⟩) hsm.1 (by decide) hsm.2).2
    have hadd : ∀ x : ByteArray, x.size ≤ 40 → (dg V ++ (⟨#[32]⟩ : ByteArray)).size + x.size ≤ 9223372036854775807 := fun x hx => by rw [ByteArray.size_append, dg_size, show (⟨#[32]⟩ : ByteArray).size = 1 from rfl]; omega
    unfold textT
    unfold nameT at hJ hts ⊢
    simp only [spec_GraphText.l0, show ¬ ((a.length : Int) < (a.length : Int)) by omega, if_false]
    by_cases h0 : s.length = 0
    · obtain rfl := List.eq_nil_of_length_eq_zero h0
      rw [if_pos (show ([] : List ByteArray).length = 0 from rfl)] at hJ hts ⊢
      simp only [List.length_nil, show (((0 : Nat) : Int) = 0) from rfl, if_true, show (0 < 8796093022208) by omega, List.nil_append]
      refine Ev.bind (Format_s (show V < 10 by omega)) ?_
      simp only [dg_size, show (1 + 1 ≤ 9223372036854775807) by omega, if_true]
      refine Ev.bind hJ ?_
      rw [if_pos (hadd _ hts)]
      exact Ev.now _
    · rw [if_neg h0] at hJ hts ⊢
      simp only [show ¬ ((s.length : Int) = 0) by omega, if_false]
      refine Ev.bind (Format_s (show V < 10 by omega)) ?_
      simp only [dg_size, show (1 + 1 ≤ 9223372036854775807) by omega, if_true]
      refine Ev.bind hJ ?_
      rw [if_pos (hadd _ hts)]
      exact Ev.now _
  · have hx1 := hx i hi
    unfold estep edge at hr
    obtain ⟨x, ex⟩ := Int.eq_ofNat_of_zero_le hx1.1
    obtain ⟨y, ey⟩ := Int.eq_ofNat_of_zero_le hx1.2.2.1
    rw [ex, ey] at hr hx1
    rw [Int.toNat_natCast, Int.toNat_natCast] at hr
    have hs1 := hs.1
    simp only [spec_GraphText.l0, show ((i : Int) < (a.length : Int)) by omega, show ((i : Int) < (b.length : Int)) by omega, show (0 : Int) ≤ (i : Int) by omega, if_true, rd_getD, ex, ey, wrap_succ (show i < 9223372036854775807 by omega)]
    refine Ev.bind (Format_s (show x < 10 by omega)) ?_
    refine Ev.bind (Format_s (show y < 10 by omega)) ?_
    simp only [dg_size, show (1 + 1 ≤ 9223372036854775807) by omega, if_true, show s.length < 8796093022208 by omega]
    exact hr
theorem GraphText_i (v : Int) (a b : List Int) : Ev (fun k => impl_GraphText.f k v a b) (graphT v a b) := by
  unfold impl_GraphText.f graphT
  refine Ev.bind (IsGraph_i v a b) ?_
  cases h : isGraph v a b
  · simp only [Bool.false_eq_true, if_false]; exact Ev.now _
  obtain ⟨V, rfl, hV, h8, hab, hx⟩ := graph_parts h
  simp only [if_true, Int.toNat_natCast]
  refine loop_fold0 (fun k s i => impl_GraphText.l0 k s (a.length : Int) i (V : Int) a b) a.length (estep a b) (fun i s => Small i s) (textT V) (fun s hs => ?_) (fun i s hi hs => ⟨small_step a b hs, fun r hr => ?_⟩) [] ⟨rfl, by simp⟩
  · have hsm := name_small hs h8
    have hts := text_size hs h8
    have hJ := Join_i (a := ⟨#[44]⟩) hsm.1 (by decide) hsm.2
    have hadd : ∀ x : ByteArray, x.size ≤ 40 → (dg V ++ (⟨#[32]⟩ : ByteArray)).size + x.size ≤ 9223372036854775807 := fun x hx => by rw [ByteArray.size_append, dg_size, show (⟨#[32]⟩ : ByteArray).size = 1 from rfl]; omega
    unfold textT
    unfold nameT at hJ hts ⊢
    simp only [impl_GraphText.l0, show ¬ ((a.length : Int) < (a.length : Int)) by omega, if_false, Format_i (show V < 10 by omega), Option.bind_some, dg_size, show (1 + 1 ≤ 9223372036854775807) by omega, if_true]
    by_cases h0 : s.length = 0
    · obtain rfl := List.eq_nil_of_length_eq_zero h0
      rw [if_pos (show ([] : List ByteArray).length = 0 from rfl)] at hJ hts ⊢
      simp only [List.length_nil, show (((0 : Nat) : Int) = 0) from rfl, if_true]
      unfold none4 at hJ hts ⊢
      simp only [hJ, Option.bind_some, if_pos (hadd _ hts)]
      exact Ev.now _
    · rw [if_neg h0] at hJ hts ⊢
      simp only [show ¬ ((s.length : Int) = 0) by omega, if_false, hJ, Option.bind_some, if_pos (hadd _ hts)]
      exact Ev.now _
  · have hx1 := hx i hi
    unfold estep edge at hr
    obtain ⟨x, ex⟩ := Int.eq_ofNat_of_zero_le hx1.1
    obtain ⟨y, ey⟩ := Int.eq_ofNat_of_zero_le hx1.2.2.1
    rw [ex, ey] at hr hx1
    rw [Int.toNat_natCast, Int.toNat_natCast] at hr
    have hs1 := hs.1
    simp only [impl_GraphText.l0, show ((i : Int) < (a.length : Int)) by omega, show ((i : Int) < (b.length : Int)) by omega, show (0 : Int) ≤ (i : Int) by omega, if_true, rd_getD, ex, ey, wrap_succ (show i < 9223372036854775807 by omega), Format_i (show x < 10 by omega), Format_i (show y < 10 by omega), Option.bind_some, dg_size, show (1 + 1 ≤ 9223372036854775807) by omega, show s.length < 8796093022208 by omega]
    exact hr
end Go.Proofs.YtopkfhnnapncgaaDoor.L
end
section
namespace Go.Proofs.YtopkfhnnapncgaaDoor.Pure
open Go.RowKit Go.Proofs.YtopkfhnnapncgaaDoor.F Go.Proofs.YtopkfhnnapncgaaDoor.L Go.Proofs.YtopkfhnnapncgaaDoorW.PrintWords Go.Proofs.YtopkfhnnapncgaaDoorW.PrintLast Go.Proofs.YtopkfhnnapncgaaDoorW.PrintMore
theorem FnExactGraphText (v : Int) (a b : List Int) (_ : (Lit.int .i64 v).wf = true) (ha : a.length * 8 ≤ 140737488351232) (_ : ∀ x ∈ a, (Lit.int .i64 x).wf = true) (hb : b.length * 8 ≤ 140737488351232) (_ : ∀ x ∈ b, (Lit.int .i64 x).wf = true) :
    ∃ k, laws_FnExactGraphText.f k v a b = some true := by
  have ha' : a.length ≤ 17592186044416 := by omega
  have hb' : b.length ≤ 17592186044416 := by omega
  refine Ev.rounds ?_
  unfold laws_FnExactGraphText.f
  obtain ⟨n, hn, _⟩ := szGraph v a b ha' hb'
  simp only [hn, Option.bind_some]
  by_cases h : n < 0
  · simp only [h, if_true]; exact Ev.now _
  simp only [h, if_false]
  refine Ev.bind (toGraph v a b ha' hb') (Ev.bind (GraphText_s v a b) (Ev.bind (toGraph v a b ha' hb') (Ev.bind (GraphText_i v a b) ?_)))
  simp only [if_true]
  refine Ev.bind (toGraph v a b ha' hb') (Ev.bind (eqGraph v a b ha' hb') ?_)
  simp only [if_true]
  exact Ev.now _
end Go.Proofs.YtopkfhnnapncgaaDoor.Pure
end
section
namespace Go.Proofs.YtopkfhnnapncgaaDoor.fnExactGraphText
open Go.ChangeShapes Go.WideShapes Go.ChangeAt Go.RowKit Go.Joins
open Go.ChangeMaps (open_string shut_string)
set_option linter.unusedVariables false
set_option maxRecDepth 100000 in
theorem lifted (os : Os) (started : os.Started) (H : Type) (enc : TypeId × Value → H) :
    ReturnsInHanded {} Tryd.checked os 4 .any (fun w args => (Rows.fnExactGraphTextSpec.pre enc Tryd.prog Tryd.f4 [] false w args ∧ laidMetH Tryd.prog Rows.fnExactGraphTextRow.laid w) ∧ sizedMet enc Tryd.prog Tryd.f4 (OpenSpec.ofChange Rows.fnExactGraphTextSpec) false w args)
      (Rows.fnExactGraphTextSpec.post enc Tryd.prog Tryd.f4 false true false false) := by
  refine returnsInHanded_of_change_and (C := Tryd.checked) (X := fun w _ => laidMetH Tryd.prog Rows.fnExactGraphTextRow.laid w) (fun _ _ _ hh h => h.of_heap hh) Open.own started (by kernel_rfl) Tryd.func4
    (ChangeSpec.witness_shaped (enc := enc) (C := Tryd.checked) (os := os) (X := fun w _ => laidMetH Tryd.prog Rows.fnExactGraphTextRow.laid w) false (World.laidAll Tryd.prog os Rows.fnExactGraphTextRow.laid) #[.agg #[.int .i64 0, .slice none 0 0, .slice none 0 0]] 8 (World.laidAll_os _ _ _) (World.shaped_of_ZipB (by kernel_rfl) (by kernel_rfl)) (by kernel_rfl) (by kernel_rfl) (by kernel_rfl)
      (by rw [MakeChecks.laidMetH_plain _ _ _ (by kernel_rfl)]; exact laidMet_laidAll _ (by kernel_rfl) (by kernel_rfl))) ?_
  intro W base args ds gs before hval0 hW hcnd hsz0 hL _
  have hsz : (DataW.weightsEach Tryd.prog (Tryd.f4.params.toList ++ Rows.fnExactGraphTextSpec.plain.varTypes Tryd.prog) (ds ++ gs)).all (· ≤ reachBytes) = true := hsz0
  have hval : ∀ (j : Nat) t v, Tryd.f4.params[j]? = some t → args[j]? = some v → Value.okWide Tryd.prog W .any base t v := hval0
  have hW' := hW
  obtain ⟨p, q, hA0, hV, rfl, hfz, hnd⟩ := hW
  have hA : DataW.TrodAll enc Tryd.prog W 0 (fun _ => true) true Tryd.f4.params.toList args.toList ds p := hA0
  rw [Tryd.params4] at hA hval hsz
  obtain ⟨v0, vs0, d0, ds0, p0, q0, hargs, rfl, rfl, h0, r0⟩ := trodAll_cons hA
  obtain ⟨rfl, rfl, rfl⟩ := trodAll_nil r0
  obtain rfl : args = #[v0] := by cases args; simp_all
  obtain ⟨rfl, rfl⟩ := trodVars_none hV
  have k0 := h0
  have lt0 : ∀ x ∈ p0, x.block < W.heap.size := by obtain ⟨m, hm⟩ := k0; exact DataW.trod_lt m _ _ _ hm
  obtain ⟨v0_0, v0_1, v0_2, y0_0, y0_1, y0_2, fuel0, rfl, hd0, hp0, t0_0, t0_1, t0_2⟩ := open_agg3 Tryd.underlying32 (by kernel_rfl) (by kernel_rfl) (hval 0 32 v0 rfl rfl) h0
  have z0 : (DataW.weightsEach Tryd.prog [3, 22, 22] [y0_0.1, y0_1.1, y0_2.1]).all (· ≤ reachBytes) = true := Open.sized_agg hsz (j := 0) (t := 32) rfl (congrArg some hd0) Tryd.underlying32
  obtain ⟨a0_0, e0_0, _, w0_0⟩ := DataW.trod_int Tryd.underlying3 t0_0
  obtain rfl : v0_0 = _ := (List.cons.inj e0_0).1
  obtain ⟨A0_1, c0_1, l0_1, rfl, hr0_1, hc0_1, hn0_1, hw0_1⟩ := Open.open_row (j := 1) Tryd.underlying22 Tryd.underlying3 (by kernel_rfl) (by kernel_rfl) z0 rfl rfl t0_1
  obtain ⟨A0_2, c0_2, l0_2, rfl, hr0_2, hc0_2, hn0_2, hw0_2⟩ := Open.open_row (j := 2) Tryd.underlying22 Tryd.underlying3 (by kernel_rfl) (by kernel_rfl) z0 rfl rfl t0_2
  obtain ⟨k, h⟩ := Pure.FnExactGraphText a0_0 l0_1 l0_2 w0_0 hn0_1 hw0_1 hn0_2 hw0_2
  refine (F.laws_FnExactGraphText.calls (w := W) (hr0_1 := hr0_1) (hc0_1 := hc0_1) (hr0_2 := hr0_2) (hc0_2 := hc0_2) (h := h)).mono ?_
  rintro e W' ⟨he, hd⟩
  have bel : Below W.heap.size W W' := by first | exact hd | exact hd.below
  subst he
  exact ⟨_, rfl, _, _, _, [], _, [], hW', trodAll_mk1 (shut_bool Tryd.underlying4 _), (trodAll_cons_mk (Below.trod Open.laidOut (by kernel_rfl) (of_decide_eq_true (by kernel_rfl)) k0 bel lt0) trodAll_mk0), rfl, bel.frame _, fun h => by cases h⟩
theorem over : Rows.fnExactGraphTextRow.holds Tryd.pinned (OpenSpec.ofChange Rows.fnExactGraphTextSpec) :=
  OpenClaim.holds_of_wide 4 Tryd.f4 rfl rfl rfl rfl rfl rfl rfl ⟨rfl, rfl, rfl, rfl, rfl⟩ rfl rfl rfl rfl rfl (by kernel_rfl) Tryd.func4 (by kernel_rfl)
    (of_decide_eq_true (by kernel_rfl)) (by unfold Func.isWrapper; first | (rw [if_pos (by decide +kernel)]; kernel_rfl) | (rw [if_neg (by decide +kernel)]; exact ⟨rfl, rfl⟩))
    (fun os started H enc _ => lifted os started H enc)
theorem proved : Rows.FnExactGraphTextSaid := over
end Go.Proofs.YtopkfhnnapncgaaDoor.fnExactGraphText
namespace Go.Proofs.YtopkfhnnapncgaaDoor
/-- The row, under a short name, for the claim. -/
theorem fnExactGraphText_holds : Rows.FnExactGraphTextSaid := fnExactGraphText.proved
/-- The tied card, for the claim. -/
theorem fnExactGraphTextCard_holds : Rows.FnExactGraphTextCardSaid :=
  Claim7.holds_tied_plain_at .later [] [.data, .data, .data] true (true, "190d45c29f0828e72aa4a04e40bc6ddf51eafdc16b3f740170eaa5129be198ce") false fnExactGraphText_holds (fun _ h => by cases h) (by kernel_rfl) (fun _ h => by cases h) fnExactGraphText_row_tie rfl ⟨rfl, rfl⟩ (by kernel_rfl) rfl
    (fun f fn hf hfn => by
      obtain rfl : f = 4 := Option.some.inj ((show Tryd.prog.funcNamed "loop.example/g00593/laws.FnExactGraphText" = some 4 by kernel_rfl).symm.trans hf) |>.symm
      obtain rfl : fn = Tryd.f4 := (Option.some.inj (Tryd.func4.symm.trans hfn)).symm
      exact ⟨by kernel_rfl, fun j t ht => by
        rw [Tryd.params4] at ht
        have hm : t ∈ [32] := by simpa using Array.mem_of_getElem? ht
        have hall : ([32].all fun u => !Tryd.prog.wantsStandIn u) = true := by kernel_rfl
        exact (show Tryd.prog.wantsStandIn t = false by simpa using List.all_eq_true.1 hall t hm)⟩) (by kernel_rfl)
#print axioms fnExactGraphTextCard_holds
end Go.Proofs.YtopkfhnnapncgaaDoor
end
