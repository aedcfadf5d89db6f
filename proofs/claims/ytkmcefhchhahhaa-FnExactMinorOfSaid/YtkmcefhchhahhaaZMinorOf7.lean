/- Several texts of this session in one: PuFnExactMinorOf, LawFnExactMinorOf. Conditions: as each theorem says. -/
import Derived.Test.YtkmcefhchhahhaaZMinorOf5
import Derived.Test.YtkmcefhchhahhaaZMinorOf6
import Derived.Test.YtkmcefhchhahhaaRows
import Derived.Test.YtkmcefhchhahhaaZMinorOf0
import Derived.WalkKit
import Derived.ProofKit
import Derived.OpenShut
import Derived.ShutString
import Derived.ChangeOld
import Derived.Below
import Derived.SizedLaws
import Derived.Lib.SmallJoins
section
namespace Go.Proofs.Ytkmcefhchhahhaa.Pure
open Go.RowKit Go.Proofs.Ytkmcefhchhahhaa.F Go.Proofs.Ytkmcefhchhahhaa.L Go.Proofs.YtkmcefhchhahhaaW.PrintWords Go.Proofs.YtkmcefhchhahhaaW.PrintLast Go.Proofs.YtkmcefhchhahhaaW.PrintMore
set_option linter.unusedSimpArgs false
theorem FnExactMinorOf (n : Int) (l : List Int) (g s : Int) (_ : (Lit.int .i64 n).wf = true) (hl : l.length * 8 ≤ 140737488351232) (_ : ∀ x ∈ l, (Lit.int .i64 x).wf = true) (_ : (Lit.int .i64 g).wf = true) (_ : (Lit.int .i64 s).wf = true) :
    ∃ k, laws_FnExactMinorOf.f k n l g s = some true := by
  have h1 : l.length ≤ 17592186044416 := by omega
  refine Ev.rounds ?_
  unfold laws_FnExactMinorOf.f
  obtain ⟨m, hm, hx⟩ := szMatroid n l h1
  simp only [hm, Option.bind_some]
  by_cases h : m < 0
  · simp only [h, if_true]; exact Ev.now _
  simp only [h, if_false]
  have hi := MinorOf_i n l g s h1
  have h2 := minorOfI_length n l g s
  refine Ev.bind (toMatroid n l h1) (Ev.bind (MinorOf_s n l g s h1) (Ev.bind (toMatroid n l h1) (Ev.bind hi ?_)))
  generalize minorOfI n l g s = t at hi h2 ⊢
  obtain ⟨tn, tl, tb⟩ := t
  have he := eqMatroid tn tl h2
  have hh := heldMatroid tn tl.length h2
  refine Ev.bind he ?_
  simp only [if_true, bne_self_eq_false]
  refine Ev.succ ?_
  simp only [laws_FnExactMinorOf.j0, Bool.false_eq_true, if_false]
  refine Ev.bind (toMatroid n l h1) (Ev.bind (eqMatroid n l h1) ?_)
  simp only [if_true]
  refine Ev.bind (markMatroid n l h1) ?_
  simp only [show ¬ (1 + (l.length : Int) < 0) by omega, if_false]
  refine Ev.bind he ?_
  simp only [if_true, bne_self_eq_false]
  refine Ev.succ ?_
  simp only [laws_FnExactMinorOf.j1, Bool.false_eq_true, if_false]
  refine Ev.bind (markMatroid tn tl h2) (Ev.bind hh ?_)
  simp only [show ¬ (1 + (tl.length : Int) < 0) by omega, if_false, if_true]
  refine Ev.bind (toMatroid n l h1) (Ev.bind hi (Ev.bind he ?_))
  simp only [if_true, bne_self_eq_false]
  refine Ev.succ ?_
  simp only [laws_FnExactMinorOf.j2, Bool.false_eq_true, if_false]
  refine Ev.bind hh ?_
  simp only [show ¬ (1 + (tl.length : Int) < 0) by omega, if_false, if_true]
  exact Ev.now _
end Go.Proofs.Ytkmcefhchhahhaa.Pure
end
section
namespace Go.Proofs.Ytkmcefhchhahhaa.fnExactMinorOf
open Go.ChangeShapes Go.WideShapes Go.ChangeAt Go.RowKit Go.Joins
open Go.ChangeMaps (open_string shut_string)
set_option linter.unusedVariables false
set_option maxRecDepth 100000 in
theorem lifted (os : Os) (started : os.Started) (H : Type) (enc : TypeId × Value → H) :
    ReturnsInHanded {} Try.checked os 6 .any (Rows.fnExactMinorOfSpec.pre6 enc Try.prog Try.f6 Rows.fnExactMinorOfRow.domain false) (Rows.fnExactMinorOfSpec.post enc Try.prog Try.f6 false true false false) := by
  refine returnsInHanded_of_change_sized (C := Try.checked) Open.own started (by kernel_rfl) Try.func6
    (ChangeSpec.witness6 (enc := enc) (C := Try.checked) false ⟨#[], #[.agg #[.int .i64 0, .slice none 0 0], .int .i64 0, .int .i64 0], []⟩ 8 (by kernel_rfl) (by kernel_rfl) (by kernel_rfl) (by kernel_rfl)) ?_
  intro W base args ds gs before hval0 hW hcnd hsz0 _
  have hsz : (DataW.weightsEach Try.prog (Try.f6.params.toList ++ Rows.fnExactMinorOfSpec.plain.varTypes Try.prog) (ds ++ gs)).all (· ≤ reachBytes) = true := hsz0
  have hval : ∀ (j : Nat) t v, Try.f6.params[j]? = some t → args[j]? = some v → Value.okWide Try.prog W .any base t v := hval0
  have hW' := hW
  obtain ⟨p, q, hA0, hV, rfl, hfz, hnd⟩ := hW
  have hA : DataW.TrodAll enc Try.prog W 0 (fun _ => true) true Try.f6.params.toList args.toList ds p := hA0
  rw [Try.params6] at hA hval hsz
  obtain ⟨v0, vs0, d0, ds0, p0, q0, hargs, rfl, rfl, h0, r0⟩ := trodAll_cons hA
  obtain ⟨v1, vs1, d1, ds1, p1, q1, rfl, rfl, rfl, h1, r1⟩ := trodAll_cons r0
  obtain ⟨v2, vs2, d2, ds2, p2, q2, rfl, rfl, rfl, h2, r2⟩ := trodAll_cons r1
  obtain ⟨rfl, rfl, rfl⟩ := trodAll_nil r2
  obtain rfl : args = #[v0, v1, v2] := by cases args; simp_all
  obtain ⟨rfl, rfl⟩ := trodVars_none hV
  have k0 := h0
  have lt0 : ∀ x ∈ p0, x.block < W.heap.size := by obtain ⟨m, hm⟩ := k0; exact DataW.trod_lt m _ _ _ hm
  obtain ⟨v0_0, v0_1, y0_0, y0_1, fuel0, rfl, hd0, hp0, t0_0, t0_1⟩ := open_agg2 Try.underlying24 (by kernel_rfl) (by kernel_rfl) (hval 0 24 v0 rfl rfl) h0
  have z0 : (DataW.weightsEach Try.prog [3, 22] [y0_0.1, y0_1.1]).all (· ≤ reachBytes) = true := Open.sized_agg hsz (j := 0) (t := 24) rfl (congrArg some hd0) Try.underlying24
  obtain ⟨a0_0, e0_0, _, w0_0⟩ := DataW.trod_int Try.underlying3 t0_0
  obtain rfl : v0_0 = _ := (List.cons.inj e0_0).1
  obtain ⟨A0_1, c0_1, l0_1, rfl, hr0_1, hc0_1, hn0_1, hw0_1⟩ := Open.open_row (j := 1) Try.underlying22 Try.underlying3 (by kernel_rfl) (by kernel_rfl) z0 rfl rfl t0_1
  obtain ⟨a1, rfl, rfl, rfl, w1⟩ := open_int Try.underlying3 (hval 1 3 v1 rfl rfl) h1
  obtain ⟨a2, rfl, rfl, rfl, w2⟩ := open_int Try.underlying3 (hval 2 3 v2 rfl rfl) h2
  obtain ⟨k, h⟩ := Pure.FnExactMinorOf a0_0 l0_1 a1 a2 w0_0 hn0_1 hw0_1 w1 w2
  refine (F.laws_FnExactMinorOf.calls (w := W) (hr0_1 := hr0_1) (hc0_1 := hc0_1) (h := h)).mono ?_
  rintro e W' ⟨he, hd⟩
  have bel : Below W.heap.size W W' := by first | exact hd | exact hd.below
  subst he
  exact ⟨_, rfl, _, _, _, [], _, [], hW', trodAll_mk1 (shut_bool Try.underlying4 _), (trodAll_cons_mk (Below.trod Open.laidOut (by kernel_rfl) (of_decide_eq_true (by kernel_rfl)) k0 bel lt0) (trodAll_cons_mk (shut_int Try.underlying3 w1) (trodAll_cons_mk (shut_int Try.underlying3 w2) trodAll_mk0))), rfl, bel.frame _, fun h => by cases h⟩
theorem over : Rows.fnExactMinorOfRow.holds Try.pinned (OpenSpec.ofChange Rows.fnExactMinorOfSpec) :=
  OpenClaim.holds_of_wide 6 Try.f6 rfl rfl rfl rfl rfl rfl rfl ⟨rfl, rfl, rfl, rfl, rfl⟩ rfl rfl rfl rfl rfl (by kernel_rfl) Try.func6 (by kernel_rfl)
    (of_decide_eq_true (by kernel_rfl)) (by unfold Func.isWrapper; first | (rw [if_pos (by decide +kernel)]; kernel_rfl) | (rw [if_neg (by decide +kernel)]; exact ⟨rfl, rfl⟩))
    (fun os started H enc _ => lifted os started H enc)
theorem proved : Rows.FnExactMinorOfSaid := over
end Go.Proofs.Ytkmcefhchhahhaa.fnExactMinorOf
namespace Go.Proofs.Ytkmcefhchhahhaa
/-- The row, under a short name, for the claim. -/
theorem fnExactMinorOf_holds : Rows.FnExactMinorOfSaid := fnExactMinorOf.proved
#print axioms fnExactMinorOf_holds
end Go.Proofs.Ytkmcefhchhahhaa
end
