/-
  No cell of these rows narrows 'for every input' (looked for: loops, veiled, ifaces, maps, wideKeys, modest, calm, conditions, laid).
  DERIVED. THE GIVEN ROWS OF THIS SEAT. 8 by the template 'for every input the law returns true; each argument reads behind the call as it read before'; 0 by the template 'total and deterministic' (their statements: YteggmbhcnhbamaaTotals.lean).
  GIVEN WITH THE SEED: the statements are not yours to turn. If you find one false, say at which input.
  Laid BY PROGRAM, IN A SANDBOX (cutbox-rows.mjs): the forced cells as the released guide's own fill.sh prints them over the translation 2966ac539ec29a2f… (all of the seat's roots in one cut). By AI agents, Wed Nov 11 2026. No macro, syntax, notation, axiom, sorry.
-/
import Derived.Test.YteggmbhcnhbamaaChecked
import GoSem.Claim
import GoSem.ClaimJoined
import GoSem.ClaimMapViews
import Derived.JoinedTies
import Derived.KernelRfl
namespace Go.Proofs.Yteggmbhcnhbamaa
/- THE CELL 'sum', in the pinned program and in every row, IS THE sha256 OF THE DUMP (.gsa) THAT YteggmbhcnhbamaaProg.lean LOADS. Nothing in Lean hashes anything: it is a label: what it is worth is what the hold of that sum in a sandbox is worth. -/
noncomputable def Try.pinned : Pinned := { name := "yteggmbhcnhbamaa", sum := "2966ac539ec29a2f2d0e2f4a5fa906b9f6fa9591e19a46f680d636418d7eb7a4", checked := Try.checked }
namespace Rows
def none {H : Type} : Left H := { results := [], args := [] }

/-- 'laws.FnExactParallelClasses': WHATEVER THE INPUT: true; the input reads as it did. -/
def fnExactParallelClassesSpec : ChangeSpec := { name := "fnExactParallelClasses", fn := fun _ => fun
  | [d] => { results := [.lit (.bool true)], args := [d] }
  | _ => none }
def fnExactParallelClassesRow : OpenClaim := { program := "yteggmbhcnhbamaa", sum := "2966ac539ec29a2f2d0e2f4a5fa906b9f6fa9591e19a46f680d636418d7eb7a4", func := "loop.example/g00593/laws.FnExactParallelClasses", spec := "fnExactParallelClasses", unfollowed := true, recurses := true, apart := false }
def FnExactParallelClassesSaid : Prop := fnExactParallelClassesRow.holds Try.pinned (OpenSpec.ofChange fnExactParallelClassesSpec)

/-- ITS FALSE NEIGHBOUR: 'it returns false'. Refute it at one input. -/
def fnExactParallelClassesWrong : ChangeSpec := { name := "fnExactParallelClasses", fn := fun _ => fun
  | [d] => { results := [.lit (.bool false)], args := [d] }
  | _ => none }
def FnExactParallelClassesWrongFalsely : Prop := fnExactParallelClassesRow.holds Try.pinned (OpenSpec.ofChange fnExactParallelClassesWrong)

/-- 'laws.FnExactFromIndependent': WHATEVER THE INPUT: true; the input reads as it did. -/
def fnExactFromIndependentSpec : ChangeSpec := { name := "fnExactFromIndependent", fn := fun _ => fun
  | [d1, d2] => { results := [.lit (.bool true)], args := [d1, d2] }
  | _ => none }
def fnExactFromIndependentRow : OpenClaim := { program := "yteggmbhcnhbamaa", sum := "2966ac539ec29a2f2d0e2f4a5fa906b9f6fa9591e19a46f680d636418d7eb7a4", func := "loop.example/g00593/laws.FnExactFromIndependent", spec := "fnExactFromIndependent", unfollowed := true, recurses := true, apart := false }
def FnExactFromIndependentSaid : Prop := fnExactFromIndependentRow.holds Try.pinned (OpenSpec.ofChange fnExactFromIndependentSpec)

/-- ITS FALSE NEIGHBOUR: 'it returns false'. Refute it at one input. -/
def fnExactFromIndependentWrong : ChangeSpec := { name := "fnExactFromIndependent", fn := fun _ => fun
  | [d1, d2] => { results := [.lit (.bool false)], args := [d1, d2] }
  | _ => none }
def FnExactFromIndependentWrongFalsely : Prop := fnExactFromIndependentRow.holds Try.pinned (OpenSpec.ofChange fnExactFromIndependentWrong)

/-- 'laws.FnExactIsConnected': WHATEVER THE INPUT: true; the input reads as it did. -/
def fnExactIsConnectedSpec : ChangeSpec := { name := "fnExactIsConnected", fn := fun _ => fun
  | [d] => { results := [.lit (.bool true)], args := [d] }
  | _ => none }
def fnExactIsConnectedRow : OpenClaim := { program := "yteggmbhcnhbamaa", sum := "2966ac539ec29a2f2d0e2f4a5fa906b9f6fa9591e19a46f680d636418d7eb7a4", func := "loop.example/g00593/laws.FnExactIsConnected", spec := "fnExactIsConnected", unfollowed := true, recurses := true, apart := false }
def FnExactIsConnectedSaid : Prop := fnExactIsConnectedRow.holds Try.pinned (OpenSpec.ofChange fnExactIsConnectedSpec)

/-- ITS FALSE NEIGHBOUR: 'it returns false'. Refute it at one input. -/
def fnExactIsConnectedWrong : ChangeSpec := { name := "fnExactIsConnected", fn := fun _ => fun
  | [d] => { results := [.lit (.bool false)], args := [d] }
  | _ => none }
def FnExactIsConnectedWrongFalsely : Prop := fnExactIsConnectedRow.holds Try.pinned (OpenSpec.ofChange fnExactIsConnectedWrong)

/-- 'laws.FnExactCocircuits': WHATEVER THE INPUT: true; the input reads as it did. -/
def fnExactCocircuitsSpec : ChangeSpec := { name := "fnExactCocircuits", fn := fun _ => fun
  | [d] => { results := [.lit (.bool true)], args := [d] }
  | _ => none }
def fnExactCocircuitsRow : OpenClaim := { program := "yteggmbhcnhbamaa", sum := "2966ac539ec29a2f2d0e2f4a5fa906b9f6fa9591e19a46f680d636418d7eb7a4", func := "loop.example/g00593/laws.FnExactCocircuits", spec := "fnExactCocircuits", unfollowed := true, recurses := true, apart := false }
def FnExactCocircuitsSaid : Prop := fnExactCocircuitsRow.holds Try.pinned (OpenSpec.ofChange fnExactCocircuitsSpec)

/-- ITS FALSE NEIGHBOUR: 'it returns false'. Refute it at one input. -/
def fnExactCocircuitsWrong : ChangeSpec := { name := "fnExactCocircuits", fn := fun _ => fun
  | [d] => { results := [.lit (.bool false)], args := [d] }
  | _ => none }
def FnExactCocircuitsWrongFalsely : Prop := fnExactCocircuitsRow.holds Try.pinned (OpenSpec.ofChange fnExactCocircuitsWrong)

/-- 'laws.FnExactIsSimple': WHATEVER THE INPUT: true; the input reads as it did. -/
def fnExactIsSimpleSpec : ChangeSpec := { name := "fnExactIsSimple", fn := fun _ => fun
  | [d] => { results := [.lit (.bool true)], args := [d] }
  | _ => none }
def fnExactIsSimpleRow : OpenClaim := { program := "yteggmbhcnhbamaa", sum := "2966ac539ec29a2f2d0e2f4a5fa906b9f6fa9591e19a46f680d636418d7eb7a4", func := "loop.example/g00593/laws.FnExactIsSimple", spec := "fnExactIsSimple", unfollowed := true, recurses := true, apart := false }
def FnExactIsSimpleSaid : Prop := fnExactIsSimpleRow.holds Try.pinned (OpenSpec.ofChange fnExactIsSimpleSpec)

/-- ITS FALSE NEIGHBOUR: 'it returns false'. Refute it at one input. -/
def fnExactIsSimpleWrong : ChangeSpec := { name := "fnExactIsSimple", fn := fun _ => fun
  | [d] => { results := [.lit (.bool false)], args := [d] }
  | _ => none }
def FnExactIsSimpleWrongFalsely : Prop := fnExactIsSimpleRow.holds Try.pinned (OpenSpec.ofChange fnExactIsSimpleWrong)

/-- 'laws.FnExactComponentsOf': WHATEVER THE INPUT: true; the input reads as it did. -/
def fnExactComponentsOfSpec : ChangeSpec := { name := "fnExactComponentsOf", fn := fun _ => fun
  | [d] => { results := [.lit (.bool true)], args := [d] }
  | _ => none }
def fnExactComponentsOfRow : OpenClaim := { program := "yteggmbhcnhbamaa", sum := "2966ac539ec29a2f2d0e2f4a5fa906b9f6fa9591e19a46f680d636418d7eb7a4", func := "loop.example/g00593/laws.FnExactComponentsOf", spec := "fnExactComponentsOf", unfollowed := true, recurses := true, apart := false }
def FnExactComponentsOfSaid : Prop := fnExactComponentsOfRow.holds Try.pinned (OpenSpec.ofChange fnExactComponentsOfSpec)

/-- ITS FALSE NEIGHBOUR: 'it returns false'. Refute it at one input. -/
def fnExactComponentsOfWrong : ChangeSpec := { name := "fnExactComponentsOf", fn := fun _ => fun
  | [d] => { results := [.lit (.bool false)], args := [d] }
  | _ => none }
def FnExactComponentsOfWrongFalsely : Prop := fnExactComponentsOfRow.holds Try.pinned (OpenSpec.ofChange fnExactComponentsOfWrong)

/-- 'laws.FnExactSeriesClasses': WHATEVER THE INPUT: true; the input reads as it did. -/
def fnExactSeriesClassesSpec : ChangeSpec := { name := "fnExactSeriesClasses", fn := fun _ => fun
  | [d] => { results := [.lit (.bool true)], args := [d] }
  | _ => none }
def fnExactSeriesClassesRow : OpenClaim := { program := "yteggmbhcnhbamaa", sum := "2966ac539ec29a2f2d0e2f4a5fa906b9f6fa9591e19a46f680d636418d7eb7a4", func := "loop.example/g00593/laws.FnExactSeriesClasses", spec := "fnExactSeriesClasses", unfollowed := true, recurses := true, apart := false }
def FnExactSeriesClassesSaid : Prop := fnExactSeriesClassesRow.holds Try.pinned (OpenSpec.ofChange fnExactSeriesClassesSpec)

/-- ITS FALSE NEIGHBOUR: 'it returns false'. Refute it at one input. -/
def fnExactSeriesClassesWrong : ChangeSpec := { name := "fnExactSeriesClasses", fn := fun _ => fun
  | [d] => { results := [.lit (.bool false)], args := [d] }
  | _ => none }
def FnExactSeriesClassesWrongFalsely : Prop := fnExactSeriesClassesRow.holds Try.pinned (OpenSpec.ofChange fnExactSeriesClassesWrong)

/-- 'laws.FnExactFromHyperplanes': WHATEVER THE INPUT: true; the input reads as it did. -/
def fnExactFromHyperplanesSpec : ChangeSpec := { name := "fnExactFromHyperplanes", fn := fun _ => fun
  | [d1, d2] => { results := [.lit (.bool true)], args := [d1, d2] }
  | _ => none }
def fnExactFromHyperplanesRow : OpenClaim := { program := "yteggmbhcnhbamaa", sum := "2966ac539ec29a2f2d0e2f4a5fa906b9f6fa9591e19a46f680d636418d7eb7a4", func := "loop.example/g00593/laws.FnExactFromHyperplanes", spec := "fnExactFromHyperplanes", unfollowed := true, recurses := true, apart := false }
def FnExactFromHyperplanesSaid : Prop := fnExactFromHyperplanesRow.holds Try.pinned (OpenSpec.ofChange fnExactFromHyperplanesSpec)

/-- ITS FALSE NEIGHBOUR: 'it returns false'. Refute it at one input. -/
def fnExactFromHyperplanesWrong : ChangeSpec := { name := "fnExactFromHyperplanes", fn := fun _ => fun
  | [d1, d2] => { results := [.lit (.bool false)], args := [d1, d2] }
  | _ => none }
def FnExactFromHyperplanesWrongFalsely : Prop := fnExactFromHyperplanesRow.holds Try.pinned (OpenSpec.ofChange fnExactFromHyperplanesWrong)

/- THE SECOND FORM. 'bulk': how many values and letters a reading holds, each counted each time it is reached (what is shared counts as often as it is met; a slice's spare places count too). A statement '..UptoSaid' is the law's where the arguments, and the package variables that the reading takes, are together of bulk at most 1048576: NARROWER than '..Said'. Prove '..Said' where nothing that the law and all that it calls make is longer than what came in: it says more and counts as full. Else prove '..UptoSaid'. A law counts once. -/
mutual
def uptoBulk {H : Type} : DataW H → Nat
  | .lit (.string bytes) => bytes.length + 1
  | .lit _ => 1
  | .nil => 1
  | .ptr d => uptoBulk d + 1
  | .slice elems spare => uptoBulkAll elems + uptoBulkAll spare + 1
  | .agg parts => uptoBulkAll parts + 1
  | .iface _ d => uptoBulk d + 1
  | .map entries => uptoBulkEntries entries + 1
  | .held _ => 1
def uptoBulkAll {H : Type} : List (DataW H) → Nat
  | [] => 0
  | d :: r => uptoBulk d + uptoBulkAll r
def uptoBulkEntries {H : Type} : List (Lit × DataW H) → Nat
  | [] => 0
  | x :: r => uptoBulkEntry x + uptoBulkEntries r
def uptoBulkEntry {H : Type} : Lit × DataW H → Nat
  | (.string bytes, d) => bytes.length + uptoBulk d + 1
  | (_, d) => uptoBulk d + 1
 end
def uptoSmall : (H : Type) → List (DataW H) → Bool := fun _ ds => decide (uptoBulkAll ds ≤ 1048576)
def OpenSpec.upto (s : _root_.Go.ChangeSpec) : _root_.Go.OpenSpec := { _root_.Go.OpenSpec.ofChange s with cond := some uptoSmall }

/-- 'laws.FnExactParallelClasses', WHERE WHAT IT READS IS OF BULK AT MOST 1048576: true; the input reads as it did. -/
def fnExactParallelClassesUptoRow : OpenClaim := { program := "yteggmbhcnhbamaa", sum := "2966ac539ec29a2f2d0e2f4a5fa906b9f6fa9591e19a46f680d636418d7eb7a4", func := "loop.example/g00593/laws.FnExactParallelClasses", spec := "fnExactParallelClasses", unfollowed := true, recurses := true, apart := false, narrowed := true }
def FnExactParallelClassesUptoSaid : Prop := fnExactParallelClassesUptoRow.holds Try.pinned (OpenSpec.upto fnExactParallelClassesSpec)

/-- 'laws.FnExactFromIndependent', WHERE WHAT IT READS IS OF BULK AT MOST 1048576: true; the input reads as it did. -/
def fnExactFromIndependentUptoRow : OpenClaim := { program := "yteggmbhcnhbamaa", sum := "2966ac539ec29a2f2d0e2f4a5fa906b9f6fa9591e19a46f680d636418d7eb7a4", func := "loop.example/g00593/laws.FnExactFromIndependent", spec := "fnExactFromIndependent", unfollowed := true, recurses := true, apart := false, narrowed := true }
def FnExactFromIndependentUptoSaid : Prop := fnExactFromIndependentUptoRow.holds Try.pinned (OpenSpec.upto fnExactFromIndependentSpec)

/-- 'laws.FnExactIsConnected', WHERE WHAT IT READS IS OF BULK AT MOST 1048576: true; the input reads as it did. -/
def fnExactIsConnectedUptoRow : OpenClaim := { program := "yteggmbhcnhbamaa", sum := "2966ac539ec29a2f2d0e2f4a5fa906b9f6fa9591e19a46f680d636418d7eb7a4", func := "loop.example/g00593/laws.FnExactIsConnected", spec := "fnExactIsConnected", unfollowed := true, recurses := true, apart := false, narrowed := true }
def FnExactIsConnectedUptoSaid : Prop := fnExactIsConnectedUptoRow.holds Try.pinned (OpenSpec.upto fnExactIsConnectedSpec)

/-- 'laws.FnExactCocircuits', WHERE WHAT IT READS IS OF BULK AT MOST 1048576: true; the input reads as it did. -/
def fnExactCocircuitsUptoRow : OpenClaim := { program := "yteggmbhcnhbamaa", sum := "2966ac539ec29a2f2d0e2f4a5fa906b9f6fa9591e19a46f680d636418d7eb7a4", func := "loop.example/g00593/laws.FnExactCocircuits", spec := "fnExactCocircuits", unfollowed := true, recurses := true, apart := false, narrowed := true }
def FnExactCocircuitsUptoSaid : Prop := fnExactCocircuitsUptoRow.holds Try.pinned (OpenSpec.upto fnExactCocircuitsSpec)

/-- 'laws.FnExactIsSimple', WHERE WHAT IT READS IS OF BULK AT MOST 1048576: true; the input reads as it did. -/
def fnExactIsSimpleUptoRow : OpenClaim := { program := "yteggmbhcnhbamaa", sum := "2966ac539ec29a2f2d0e2f4a5fa906b9f6fa9591e19a46f680d636418d7eb7a4", func := "loop.example/g00593/laws.FnExactIsSimple", spec := "fnExactIsSimple", unfollowed := true, recurses := true, apart := false, narrowed := true }
def FnExactIsSimpleUptoSaid : Prop := fnExactIsSimpleUptoRow.holds Try.pinned (OpenSpec.upto fnExactIsSimpleSpec)

/-- 'laws.FnExactComponentsOf', WHERE WHAT IT READS IS OF BULK AT MOST 1048576: true; the input reads as it did. -/
def fnExactComponentsOfUptoRow : OpenClaim := { program := "yteggmbhcnhbamaa", sum := "2966ac539ec29a2f2d0e2f4a5fa906b9f6fa9591e19a46f680d636418d7eb7a4", func := "loop.example/g00593/laws.FnExactComponentsOf", spec := "fnExactComponentsOf", unfollowed := true, recurses := true, apart := false, narrowed := true }
def FnExactComponentsOfUptoSaid : Prop := fnExactComponentsOfUptoRow.holds Try.pinned (OpenSpec.upto fnExactComponentsOfSpec)

/-- 'laws.FnExactSeriesClasses', WHERE WHAT IT READS IS OF BULK AT MOST 1048576: true; the input reads as it did. -/
def fnExactSeriesClassesUptoRow : OpenClaim := { program := "yteggmbhcnhbamaa", sum := "2966ac539ec29a2f2d0e2f4a5fa906b9f6fa9591e19a46f680d636418d7eb7a4", func := "loop.example/g00593/laws.FnExactSeriesClasses", spec := "fnExactSeriesClasses", unfollowed := true, recurses := true, apart := false, narrowed := true }
def FnExactSeriesClassesUptoSaid : Prop := fnExactSeriesClassesUptoRow.holds Try.pinned (OpenSpec.upto fnExactSeriesClassesSpec)

/-- 'laws.FnExactFromHyperplanes', WHERE WHAT IT READS IS OF BULK AT MOST 1048576: true; the input reads as it did. -/
def fnExactFromHyperplanesUptoRow : OpenClaim := { program := "yteggmbhcnhbamaa", sum := "2966ac539ec29a2f2d0e2f4a5fa906b9f6fa9591e19a46f680d636418d7eb7a4", func := "loop.example/g00593/laws.FnExactFromHyperplanes", spec := "fnExactFromHyperplanes", unfollowed := true, recurses := true, apart := false, narrowed := true }
def FnExactFromHyperplanesUptoSaid : Prop := fnExactFromHyperplanesUptoRow.holds Try.pinned (OpenSpec.upto fnExactFromHyperplanesSpec)

end Rows
end Go.Proofs.Yteggmbhcnhbamaa
