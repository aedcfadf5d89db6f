/- 'loop.example/g00593/laws.FnExactFromIndependent': whatever the input, the Go function returns true, and its arguments read as they did. No condition. -/
import Derived.Test.YteggmbhcnhbamaaRows
import Derived.Test.YteggmbhcnhbamaaOpen
import Derived.Test.YteggmbhcnhbamaaFx44
import Derived.Test.YteggmbhcnhbamaaPuFnExactFromIndependent
import Derived.WalkKit
import Derived.ProofKit
import Derived.OpenShut
import Derived.ShutString
import Derived.ChangeOld
import Derived.Below
import Derived.SizedLaws
import Derived.Lib.SmallJoins
namespace Go.Proofs.Yteggmbhcnhbamaa.fnExactFromIndependent
open Go.ChangeShapes Go.WideShapes Go.ChangeAt Go.RowKit Go.Joins
open Go.ChangeMaps (open_string shut_string)
set_option linter.unusedVariables false
set_option maxRecDepth 100000 in
theorem lifted (os : Os) (started : os.Started) (H : Type) (enc : TypeId × Value → H) :
    ReturnsInHanded {} Try.checked os 4 .any (Rows.fnExactFromIndependentSpec.pre6 enc Try.prog Try.f4 Rows.fnExactFromIndependentRow.domain false) (Rows.fnExactFromIndependentSpec.post enc Try.prog Try.f4 false true false false) := by
  refine returnsInHanded_of_change_sized (C := Try.checked) Open.own started (by kernel_rfl) Try.func4
    (ChangeSpec.witness6 (enc := enc) (C := Try.checked) false ⟨#[], #[.int .i64 0, .slice none 0 0], []⟩ 8 (by kernel_rfl) (by kernel_rfl) (by kernel_rfl) (by kernel_rfl)) ?_
  intro W base args ds gs before hval0 hW hcnd hsz0 _
  have hsz : (DataW.weightsEach Try.prog (Try.f4.params.toList ++ Rows.fnExactFromIndependentSpec.plain.varTypes Try.prog) (ds ++ gs)).all (· ≤ reachBytes) = true := hsz0
  have hval : ∀ (j : Nat) t v, Try.f4.params[j]? = some t → args[j]? = some v → Value.okWide Try.prog W .any base t v := hval0
  have hW' := hW
  obtain ⟨p, q, hA0, hV, rfl, hfz, hnd⟩ := hW
  have hA : DataW.TrodAll enc Try.prog W 0 (fun _ => true) true Try.f4.params.toList args.toList ds p := hA0
  rw [Try.params4] at hA hval hsz
  obtain ⟨v0, vs0, d0, ds0, p0, q0, hargs, rfl, rfl, h0, r0⟩ := trodAll_cons hA
  obtain ⟨v1, vs1, d1, ds1, p1, q1, rfl, rfl, rfl, h1, r1⟩ := trodAll_cons r0
  obtain ⟨rfl, rfl, rfl⟩ := trodAll_nil r1
  obtain rfl : args = #[v0, v1] := by cases args; simp_all
  obtain ⟨rfl, rfl⟩ := trodVars_none hV
  obtain ⟨a0, rfl, rfl, rfl, w0⟩ := open_int Try.underlying3 (hval 0 3 v0 rfl rfl) h0
  have k1 := h1
  have lt1 : ∀ x ∈ p1, x.block < W.heap.size := by obtain ⟨m, hm⟩ := k1; exact DataW.trod_lt m _ _ _ hm
  obtain ⟨x1, n1, q1_, rfl⟩ := okWide_slice Try.underlying22 (hval 1 22 v1 rfl rfl)
  obtain ⟨fuel1, g1⟩ := h1
  have g1' : DataW.trod enc Try.prog W 0 (fun _ => true) true fuel1 22 [.slice x1 n1 q1_] = some (d1, p1) := by simpa [Value.cells] using g1
  obtain ⟨A1, c1, l1, e1, hr1, hc1, hn1, hw1⟩ := Open.open_row (ts := [3, 22]) (j := 1) Try.underlying22 Try.underlying3 (by kernel_rfl) (by kernel_rfl) hsz rfl rfl g1'
  obtain ⟨rfl, rfl, rfl⟩ : x1 = A1 ∧ n1 = l1.length ∧ q1_ = c1 := by simpa using e1
  obtain ⟨k, h⟩ := Pure.FnExactFromIndependent a0 l1 w0 hn1 hw1
  refine (F.laws_FnExactFromIndependent.calls (w := W) (hr1 := hr1) (hc1 := hc1) (h := h)).mono ?_
  rintro e W' ⟨he, hd⟩
  have bel : Below W.heap.size W W' := by first | exact hd | exact hd.below
  subst he
  exact ⟨_, rfl, _, _, _, [], _, [], hW', trodAll_mk1 (shut_bool Try.underlying4 _), (trodAll_cons_mk (shut_int Try.underlying3 w0) (trodAll_cons_mk (Below.trod Open.laidOut (by kernel_rfl) (of_decide_eq_true (by kernel_rfl)) k1 bel lt1) trodAll_mk0)), rfl, bel.frame _, fun h => by cases h⟩
theorem over : Rows.fnExactFromIndependentRow.holds Try.pinned (OpenSpec.ofChange Rows.fnExactFromIndependentSpec) :=
  OpenClaim.holds_of_wide 4 Try.f4 rfl rfl rfl rfl rfl rfl rfl ⟨rfl, rfl, rfl, rfl, rfl⟩ rfl rfl rfl rfl rfl (by kernel_rfl) Try.func4 (by kernel_rfl)
    (of_decide_eq_true (by kernel_rfl)) (by unfold Func.isWrapper; first | (rw [if_pos (by decide +kernel)]; kernel_rfl) | (rw [if_neg (by decide +kernel)]; exact ⟨rfl, rfl⟩))
    (fun os started H enc _ => lifted os started H enc)
theorem proved : Rows.FnExactFromIndependentSaid := over
end Go.Proofs.Yteggmbhcnhbamaa.fnExactFromIndependent
namespace Go.Proofs.Yteggmbhcnhbamaa
/-- The row, under a short name, for the claim. -/
theorem fnExactFromIndependent_holds : Rows.FnExactFromIndependentSaid := fnExactFromIndependent.proved
#print axioms fnExactFromIndependent_holds
end Go.Proofs.Yteggmbhcnhbamaa
