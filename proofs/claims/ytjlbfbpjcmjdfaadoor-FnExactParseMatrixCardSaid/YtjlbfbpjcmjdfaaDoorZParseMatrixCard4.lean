/- Several texts of this session in one: LMark, LMarkM, PuFnExactParseMatrix, LawFnExactParseMatrixCard. Conditions: as each theorem says. -/
import Derived.Test.YtjlbfbpjcmjdfaaDoorZParseMatrixCard2
import Derived.Test.YtjlbfbpjcmjdfaaDoorZParseMatrixCard3
import Derived.Test.YtjlbfbpjcmjdfaaDoorRows
import Derived.Test.YtjlbfbpjcmjdfaaDoorCards
import Derived.Test.YtjlbfbpjcmjdfaaDoorTie
import Derived.Test.YtjlbfbpjcmjdfaaDoorZParseMatrixCard0
import Derived.WalkKit
import Derived.Lay
import Derived.LaidMore
import Derived.ProofKit
import Derived.OpenShut
import Derived.ShutString
import Derived.ChangeOld
import Derived.Below
import Derived.SizedLaws
import Derived.Lib.SmallJoins
section
namespace Go.Proofs.YtjlbfbpjcmjdfaaDoor.L
open Go.RowKit Go.Proofs.YtjlbfbpjcmjdfaaDoor.F Go.Proofs.YtjlbfbpjcmjdfaaDoorW.PrintWords Go.Proofs.YtjlbfbpjcmjdfaaDoorW.PrintLast Go.Proofs.YtjlbfbpjcmjdfaaDoorW.PrintMore
open Go.Proofs.YtjlbfbpjcmjdfaaDoor.Bits
set_option linter.unusedSimpArgs false
/-- n numbers from m on. -/
def markL (n : Nat) (m : Int) : List Int := (List.range n).map fun i : Nat => m + (i : Int)
theorem markL_length (n : Nat) (m : Int) : (markL n m).length = n := by simp [markL]
theorem markL_get (n : Nat) (m : Int) (i : Nat) (h : i < n) : (markL n m).getD i 0 = m + i := by simp [markL, h]
theorem fold_mark (l : List Int) (m : Int) : ∀ n, n ≤ l.length → (List.range n).foldl (fun (s : List Int × Int) i => (s.1.set i s.2, s.2 + 1)) (l, m) = (markL n m ++ l.drop n, m + n)
  | 0, _ => by simp [markL]
  | n + 1, h => by
    rw [List.range_succ, List.foldl_append, fold_mark l m n (by omega)]
    simp only [List.foldl_cons, List.foldl_nil, Prod.mk.injEq]
    refine ⟨?_, by omega⟩
    rw [List.set_append_right _ _ (by rw [markL_length]; exact Nat.le_refl n), markL_length, Nat.sub_self, List.drop_eq_getElem_cons (by omega), List.set_cons_zero]
    simp [markL, List.range_succ]
theorem markIntS (l : List Int) (m : Int) (h : l.length ≤ 17592186044416) (h0 : 0 ≤ m) (h1 : m ≤ 140737488355328) : Ev (fun k => laws_markIntS.f k l m) (m + l.length, markL l.length m) := by
  unfold laws_markIntS.f
  have key := loop_fold0 (fun k (s : List Int × Int) i => laws_markIntS.l0 k s.1 s.2 i) l.length (fun s i => (s.1.set i s.2, s.2 + 1)) (fun i s => s.1.length = l.length ∧ s.2 = m + i) (fun s => (s.2, s.1))
    (fun s hs => by
      simp only [laws_markIntS.l0, hs.1, show ¬ ((l.length : Int) < (l.length : Int)) by omega, if_false]
      exact Ev.now _)
    (fun i s hi hs => ⟨⟨by simp [hs.1], by simp only [hs.2]; omega⟩, fun r hr => by
      have hw : wrap64 (s.2 + 1) = s.2 + 1 := wrap_in (by omega) (by omega)
      simp only [laws_markIntS.l0, hs.1, show ((i : Int) < (l.length : Int)) by omega, show (0 : Int) ≤ (i : Int) by omega, if_true, Int.toNat_natCast, hw, wrap_succ (show i < 9223372036854775807 by omega)]
      exact hr⟩) (l, m) ⟨rfl, by simp⟩
  rw [fold_mark l m l.length (Nat.le_refl _)] at key
  simpa using key
theorem heldIntS (n : Nat) (m : Int) (h : n ≤ 17592186044416) (h0 : 0 ≤ m) (h1 : m ≤ 140737488355328) : Ev (fun k => laws_heldIntS.f k (markL n m) m) (m + n) := by
  unfold laws_heldIntS.f
  have key := loop_fold0 (fun k (s : Int) i => laws_heldIntS.l0 k (markL n m) s i) n (fun s _ => s + 1) (fun i s => s = m + i) id
    (fun s hs => by
      simp only [laws_heldIntS.l0, markL_length, show ¬ ((n : Int) < (n : Int)) by omega, if_false]
      exact Ev.now _)
    (fun i s hi hs => ⟨by rw [hs]; omega, fun r hr => by
      have hw : wrap64 (s + 1) = s + 1 := wrap_in (by omega) (by omega)
      have hg : rd (markL n m) (i : Int) = s := by rw [rd_getD, markL_get n m i hi, hs]
      simp only [laws_heldIntS.l0, markL_length, hg, show ((i : Int) < (n : Int)) by omega, show (0 : Int) ≤ (i : Int) by omega, if_true, hw, wrap_succ (show i < 9223372036854775807 by omega)]
      exact hr⟩) m (by simp)
  have e : ∀ n : Nat, (List.range n).foldl (fun (s : Int) _ => s + 1) m = m + n := by
    intro n
    induction n with
    | zero => simp
    | succ n ih => rw [List.range_succ, List.foldl_append, ih]; simp; omega
  rw [e n] at key
  exact key
end Go.Proofs.YtjlbfbpjcmjdfaaDoor.L
end
section
namespace Go.Proofs.YtjlbfbpjcmjdfaaDoor.L
open Go.RowKit Go.Proofs.YtjlbfbpjcmjdfaaDoor.F Go.Proofs.YtjlbfbpjcmjdfaaDoorW.PrintWords Go.Proofs.YtjlbfbpjcmjdfaaDoorW.PrintLast Go.Proofs.YtjlbfbpjcmjdfaaDoorW.PrintMore
open Go.Proofs.YtjlbfbpjcmjdfaaDoor.Bits
theorem markMatrix (p r c : Int) (l : List Int) (h : l.length ≤ 17592186044416) : Ev (fun k => laws_markMatrix.f k p r c l 1) (1 + l.length, markL l.length 1) := by
  unfold laws_markMatrix.f
  exact Ev.bind (markIntS l 1 h (by omega) (by omega)) (Ev.now _)
theorem heldMatrix (p r c : Int) (n : Nat) (h : n ≤ 17592186044416) : Ev (fun k => laws_heldMatrix.f k p r c (markL n 1) 1) (1 + n) := by
  unfold laws_heldMatrix.f
  refine Ev.bind (heldIntS n 1 h (by omega) (by omega)) ?_
  simp only [show ¬ (1 + (n : Int) < 0) by omega, if_false]; exact Ev.now _
end Go.Proofs.YtjlbfbpjcmjdfaaDoor.L
end
section
namespace Go.Proofs.YtjlbfbpjcmjdfaaDoor.Pure
open Go.RowKit Go.Proofs.YtjlbfbpjcmjdfaaDoor.F Go.Proofs.YtjlbfbpjcmjdfaaDoor.L Go.Proofs.YtjlbfbpjcmjdfaaDoorW.PrintWords Go.Proofs.YtjlbfbpjcmjdfaaDoorW.PrintLast Go.Proofs.YtjlbfbpjcmjdfaaDoorW.PrintMore
theorem FnExactParseMatrix (t : ByteArray) (_ : t.size ≤ 140737488351232) : ∃ k, laws_FnExactParseMatrix.f k t = some true := by
  refine Ev.rounds ?_
  unfold laws_FnExactParseMatrix.f
  by_cases h : (t.size : Int) > 1048576
  · simp only [h, if_true]; exact Ev.now _
  simp only [h, if_false]
  have ht : t.size ≤ 1048576 := by omega
  have hi := Parse_i t ht
  refine Ev.bind (Parse_s t ht) (Ev.bind hi ?_)
  have hm : (parseM t).2.2.2.1.length ≤ 17592186044416 := Nat.le_trans (parseM_length t) (by decide)
  generalize parseM t = m at hm hi
  obtain ⟨p, r, c, l, b⟩ := m
  simp only at hm hi ⊢
  have hb : (b != b) = false := by cases b <;> rfl
  refine Ev.bind (eqMatrix p r c l p r c l hm) ?_
  simp only [decide_true, if_true, hb]
  refine Ev.succ ?_
  simp only [laws_FnExactParseMatrix.j0, Bool.false_eq_true, if_false]
  refine Ev.bind (markMatrix p r c l hm) (Ev.bind (heldMatrix p r c l.length hm) ?_)
  simp only [show ¬ (1 + (l.length : Int) < 0) by omega, if_false, if_true]
  refine Ev.bind hi (Ev.bind (eqMatrix p r c l p r c l hm) ?_)
  simp only [decide_true, if_true, hb]
  refine Ev.succ ?_
  simp only [laws_FnExactParseMatrix.j1, Bool.false_eq_true, if_false]
  refine Ev.bind (heldMatrix p r c l.length hm) ?_
  simp only [show ¬ (1 + (l.length : Int) < 0) by omega, if_false, if_true]
  exact Ev.now _
end Go.Proofs.YtjlbfbpjcmjdfaaDoor.Pure
end
section
namespace Go.Proofs.YtjlbfbpjcmjdfaaDoor.fnExactParseMatrix
open Go.ChangeShapes Go.WideShapes Go.ChangeAt Go.RowKit Go.Joins
open Go.ChangeMaps (open_string shut_string)
set_option linter.unusedVariables false
set_option maxRecDepth 100000 in
theorem lifted (os : Os) (started : os.Started) (H : Type) (enc : TypeId × Value → H) :
    ReturnsInHanded {} Tryd.checked os 3 .any (fun w args => (Rows.fnExactParseMatrixSpec.pre enc Tryd.prog Tryd.f3 [] false w args ∧ laidMetH Tryd.prog Rows.fnExactParseMatrixRow.laid w) ∧ sizedMet enc Tryd.prog Tryd.f3 (OpenSpec.ofChange Rows.fnExactParseMatrixSpec) false w args)
      (Rows.fnExactParseMatrixSpec.post enc Tryd.prog Tryd.f3 false true false false) := by
  refine F.returns_laid_shaped (C := Tryd.checked) (X := fun w _ => laidMetH Tryd.prog Rows.fnExactParseMatrixRow.laid w) (fun _ _ _ hh h => h.of_heap hh) Open.own started (by kernel_rfl) Tryd.func3
    (ChangeSpec.witness_shaped (enc := enc) (C := Tryd.checked) (os := os) (X := fun w _ => laidMetH Tryd.prog Rows.fnExactParseMatrixRow.laid w) false (World.laidAll Tryd.prog os Rows.fnExactParseMatrixRow.laid) #[.string ByteArray.empty] 8 (World.laidAll_os _ _ _) (World.shaped_of_ZipB (by kernel_rfl) (by kernel_rfl)) (by kernel_rfl) (by kernel_rfl) (by kernel_rfl)
      (by rw [MakeChecks.laidMetH_plain _ _ _ (by kernel_rfl)]; exact laidMet_laidAll _ (by kernel_rfl) (by kernel_rfl))) ?_
  intro W base args ds gs before hval0 hW hcnd hsz0 hL hS
  have hsz : (DataW.weightsEach Tryd.prog (Tryd.f3.params.toList ++ Rows.fnExactParseMatrixSpec.plain.varTypes Tryd.prog) (ds ++ gs)).all (· ≤ reachBytes) = true := hsz0
  have hval : ∀ (j : Nat) t v, Tryd.f3.params[j]? = some t → args[j]? = some v → Value.okWide Tryd.prog W .any base t v := hval0
  have hW' := hW
  obtain ⟨p, q, hA0, hV, rfl, hfz, hnd⟩ := hW
  have hA : DataW.TrodAll enc Tryd.prog W 0 (fun _ => true) true Tryd.f3.params.toList args.toList ds p := hA0
  rw [Tryd.params3] at hA hval hsz
  obtain ⟨v0, vs0, d0, ds0, p0, q0, hargs, rfl, rfl, h0, r0⟩ := trodAll_cons hA
  obtain ⟨rfl, rfl, rfl⟩ := trodAll_nil r0
  obtain rfl : args = #[v0] := by cases args; simp_all
  obtain ⟨rfl, rfl⟩ := trodVars_none hV
  obtain ⟨a0, rfl, rfl, rfl, y0⟩ := open_string Tryd.underlying9 (hval 0 9 v0 rfl rfl) h0
  have w0 : a0.size ≤ 140737488351232 := by
    have z := sized_string hsz (j := 0) (t := 9) rfl rfl
    rw [Array.length_toList] at z
    exact z
  obtain ⟨k, h⟩ := Pure.FnExactParseMatrix a0 w0
  refine (F.laws_FnExactParseMatrix.calls (w := W) (h := h) (hv := F.vars_ok hL hS)).mono ?_
  rintro e W' ⟨he, hd⟩
  have bel : Below W.heap.size W W' := by first | exact hd | exact hd.below
  subst he
  exact ⟨_, rfl, _, _, _, [], _, [], hW', trodAll_mk1 (shut_bool Tryd.underlying4 _), (trodAll_cons_mk (shut_string Tryd.underlying9 y0) trodAll_mk0), rfl, bel.frame _, fun h => by cases h⟩
theorem over : Rows.fnExactParseMatrixRow.holds Tryd.pinned (OpenSpec.ofChange Rows.fnExactParseMatrixSpec) :=
  OpenClaim.holds_of_wide 3 Tryd.f3 rfl rfl rfl rfl rfl rfl rfl ⟨rfl, rfl, rfl, rfl, rfl⟩ rfl rfl rfl rfl rfl (by kernel_rfl) Tryd.func3 (by kernel_rfl)
    (of_decide_eq_true (by kernel_rfl)) (by unfold Func.isWrapper; first | (rw [if_pos (by decide +kernel)]; kernel_rfl) | (rw [if_neg (by decide +kernel)]; exact ⟨rfl, rfl⟩))
    (fun os started H enc _ => lifted os started H enc)
theorem proved : Rows.FnExactParseMatrixSaid := over
end Go.Proofs.YtjlbfbpjcmjdfaaDoor.fnExactParseMatrix
namespace Go.Proofs.YtjlbfbpjcmjdfaaDoor
/-- The row, under a short name, for the claim. -/
theorem fnExactParseMatrix_holds : Rows.FnExactParseMatrixSaid := fnExactParseMatrix.proved
/-- The tied card, for the claim. -/
theorem fnExactParseMatrixCard_holds : Rows.FnExactParseMatrixCardSaid :=
  Claim7.holds_tied_plain_at .later [] [.data, .data, .data, .data, .sentinel, .sentinel, .pinned] true (true, "d8f6c49cb1fbf2552036e01b92bca981c9be89704f58f01a6901198190f48104") true fnExactParseMatrix_holds (fun _ h => by cases h) (by kernel_rfl) (fun _ h => by cases h) fnExactParseMatrix_row_tie rfl ⟨rfl, rfl⟩ (by kernel_rfl) rfl
    (fun f fn hf hfn => by
      obtain rfl : f = 3 := Option.some.inj ((show Tryd.prog.funcNamed "loop.example/g00593/laws.FnExactParseMatrix" = some 3 by kernel_rfl).symm.trans hf) |>.symm
      obtain rfl : fn = Tryd.f3 := (Option.some.inj (Tryd.func3.symm.trans hfn)).symm
      exact ⟨by kernel_rfl, fun j t ht => by
        rw [Tryd.params3] at ht
        have hm : t ∈ [9] := by simpa using Array.mem_of_getElem? ht
        have hall : ([9].all fun u => !Tryd.prog.wantsStandIn u) = true := by kernel_rfl
        exact (show Tryd.prog.wantsStandIn t = false by simpa using List.all_eq_true.1 hall t hm)⟩) (by kernel_rfl)
#print axioms fnExactParseMatrixCard_holds
end Go.Proofs.YtjlbfbpjcmjdfaaDoor
end
