/-
  No cell of these rows narrows 'for every input' (looked for: loops, veiled, ifaces, maps, wideKeys, modest, calm, conditions, laid).
  DERIVED. THE GIVEN ROWS OF THIS SEAT. 8 by the template 'for every input the law returns true; each argument reads behind the call as it read before'; 0 by the template 'total and deterministic' (their statements: YtopkfhnnapncgaaTotals.lean).
  GIVEN WITH THE SEED: the statements are not yours to turn. If you find one false, say at which input.
  Laid BY PROGRAM, IN A SANDBOX (cutbox-rows.mjs): the forced cells as the released guide's own fill.sh prints them over the translation 9a25466455274e96… (all of the seat's roots in one cut). By AI agents, Wed Nov 11 2026. No macro, syntax, notation, axiom, sorry.
-/
import Derived.Test.YtopkfhnnapncgaaChecked
import GoSem.Claim
import GoSem.ClaimJoined
import GoSem.ClaimMapViews
import Derived.JoinedTies
import Derived.KernelRfl
namespace Go.Proofs.Ytopkfhnnapncgaa
/- THE CELL 'sum', in the pinned program and in every row, IS THE sha256 OF THE DUMP (.gsa) THAT YtopkfhnnapncgaaProg.lean LOADS. Nothing in Lean hashes anything: it is a label: what it is worth is what the hold of that sum in a sandbox is worth. -/
noncomputable def Try.pinned : Pinned := { name := "ytopkfhnnapncgaa", sum := "9a25466455274e962f66f2d1f465d4635525ad29259bc1df2d4dfd3efd3bfaf1", checked := Try.checked }
namespace Rows
def none {H : Type} : Left H := { results := [], args := [] }

/-- 'laws.FnExactOrthogonal': WHATEVER THE INPUT: true; the input reads as it did. -/
def fnExactOrthogonalSpec : ChangeSpec := { name := "fnExactOrthogonal", fn := fun _ => fun
  | [d1, d2] => { results := [.lit (.bool true)], args := [d1, d2] }
  | _ => none }
def fnExactOrthogonalRow : OpenClaim := { program := "ytopkfhnnapncgaa", sum := "9a25466455274e962f66f2d1f465d4635525ad29259bc1df2d4dfd3efd3bfaf1", func := "loop.example/g00593/laws.FnExactOrthogonal", spec := "fnExactOrthogonal", apart := false }
def FnExactOrthogonalSaid : Prop := fnExactOrthogonalRow.holds Try.pinned (OpenSpec.ofChange fnExactOrthogonalSpec)

/-- ITS FALSE NEIGHBOUR: 'it returns false'. Refute it at one input. -/
def fnExactOrthogonalWrong : ChangeSpec := { name := "fnExactOrthogonal", fn := fun _ => fun
  | [d1, d2] => { results := [.lit (.bool false)], args := [d1, d2] }
  | _ => none }
def FnExactOrthogonalWrongFalsely : Prop := fnExactOrthogonalRow.holds Try.pinned (OpenSpec.ofChange fnExactOrthogonalWrong)

/-- 'laws.FnExactColourings': WHATEVER THE INPUT: true; the input reads as it did. -/
def fnExactColouringsSpec : ChangeSpec := { name := "fnExactColourings", fn := fun _ => fun
  | [d1, d2] => { results := [.lit (.bool true)], args := [d1, d2] }
  | _ => none }
def fnExactColouringsRow : OpenClaim := { program := "ytopkfhnnapncgaa", sum := "9a25466455274e962f66f2d1f465d4635525ad29259bc1df2d4dfd3efd3bfaf1", func := "loop.example/g00593/laws.FnExactColourings", spec := "fnExactColourings", unfollowed := true, recurses := true, apart := false }
def FnExactColouringsSaid : Prop := fnExactColouringsRow.holds Try.pinned (OpenSpec.ofChange fnExactColouringsSpec)

/-- ITS FALSE NEIGHBOUR: 'it returns false'. Refute it at one input. -/
def fnExactColouringsWrong : ChangeSpec := { name := "fnExactColourings", fn := fun _ => fun
  | [d1, d2] => { results := [.lit (.bool false)], args := [d1, d2] }
  | _ => none }
def FnExactColouringsWrongFalsely : Prop := fnExactColouringsRow.holds Try.pinned (OpenSpec.ofChange fnExactColouringsWrong)

/-- 'laws.FnExactPiecesOf': WHATEVER THE INPUT: true; the input reads as it did. -/
def fnExactPiecesOfSpec : ChangeSpec := { name := "fnExactPiecesOf", fn := fun _ => fun
  | [d1, d2] => { results := [.lit (.bool true)], args := [d1, d2] }
  | _ => none }
def fnExactPiecesOfRow : OpenClaim := { program := "ytopkfhnnapncgaa", sum := "9a25466455274e962f66f2d1f465d4635525ad29259bc1df2d4dfd3efd3bfaf1", func := "loop.example/g00593/laws.FnExactPiecesOf", spec := "fnExactPiecesOf", apart := false }
def FnExactPiecesOfSaid : Prop := fnExactPiecesOfRow.holds Try.pinned (OpenSpec.ofChange fnExactPiecesOfSpec)

/-- ITS FALSE NEIGHBOUR: 'it returns false'. Refute it at one input. -/
def fnExactPiecesOfWrong : ChangeSpec := { name := "fnExactPiecesOf", fn := fun _ => fun
  | [d1, d2] => { results := [.lit (.bool false)], args := [d1, d2] }
  | _ => none }
def FnExactPiecesOfWrongFalsely : Prop := fnExactPiecesOfRow.holds Try.pinned (OpenSpec.ofChange fnExactPiecesOfWrong)

/-- 'laws.FnExactIncidenceMatrix': WHATEVER THE INPUT: true; the input reads as it did. -/
def fnExactIncidenceMatrixSpec : ChangeSpec := { name := "fnExactIncidenceMatrix", fn := fun _ => fun
  | [d] => { results := [.lit (.bool true)], args := [d] }
  | _ => none }
def fnExactIncidenceMatrixRow : OpenClaim := { program := "ytopkfhnnapncgaa", sum := "9a25466455274e962f66f2d1f465d4635525ad29259bc1df2d4dfd3efd3bfaf1", func := "loop.example/g00593/laws.FnExactIncidenceMatrix", spec := "fnExactIncidenceMatrix", apart := false }
def FnExactIncidenceMatrixSaid : Prop := fnExactIncidenceMatrixRow.holds Try.pinned (OpenSpec.ofChange fnExactIncidenceMatrixSpec)

/-- ITS FALSE NEIGHBOUR: 'it returns false'. Refute it at one input. -/
def fnExactIncidenceMatrixWrong : ChangeSpec := { name := "fnExactIncidenceMatrix", fn := fun _ => fun
  | [d] => { results := [.lit (.bool false)], args := [d] }
  | _ => none }
def FnExactIncidenceMatrixWrongFalsely : Prop := fnExactIncidenceMatrixRow.holds Try.pinned (OpenSpec.ofChange fnExactIncidenceMatrixWrong)

/-- 'laws.FnExactFlows': WHATEVER THE INPUT: true; the input reads as it did. -/
def fnExactFlowsSpec : ChangeSpec := { name := "fnExactFlows", fn := fun _ => fun
  | [d1, d2] => { results := [.lit (.bool true)], args := [d1, d2] }
  | _ => none }
def fnExactFlowsRow : OpenClaim := { program := "ytopkfhnnapncgaa", sum := "9a25466455274e962f66f2d1f465d4635525ad29259bc1df2d4dfd3efd3bfaf1", func := "loop.example/g00593/laws.FnExactFlows", spec := "fnExactFlows", unfollowed := true, recurses := true, apart := false }
def FnExactFlowsSaid : Prop := fnExactFlowsRow.holds Try.pinned (OpenSpec.ofChange fnExactFlowsSpec)

/-- ITS FALSE NEIGHBOUR: 'it returns false'. Refute it at one input. -/
def fnExactFlowsWrong : ChangeSpec := { name := "fnExactFlows", fn := fun _ => fun
  | [d1, d2] => { results := [.lit (.bool false)], args := [d1, d2] }
  | _ => none }
def FnExactFlowsWrongFalsely : Prop := fnExactFlowsRow.holds Try.pinned (OpenSpec.ofChange fnExactFlowsWrong)

/-- 'laws.FnExactMatrixRank': WHATEVER THE INPUT: true; the input reads as it did. -/
def fnExactMatrixRankSpec : ChangeSpec := { name := "fnExactMatrixRank", fn := fun _ => fun
  | [d1, d2] => { results := [.lit (.bool true)], args := [d1, d2] }
  | _ => none }
def fnExactMatrixRankRow : OpenClaim := { program := "ytopkfhnnapncgaa", sum := "9a25466455274e962f66f2d1f465d4635525ad29259bc1df2d4dfd3efd3bfaf1", func := "loop.example/g00593/laws.FnExactMatrixRank", spec := "fnExactMatrixRank", apart := false }
def FnExactMatrixRankSaid : Prop := fnExactMatrixRankRow.holds Try.pinned (OpenSpec.ofChange fnExactMatrixRankSpec)

/-- ITS FALSE NEIGHBOUR: 'it returns false'. Refute it at one input. -/
def fnExactMatrixRankWrong : ChangeSpec := { name := "fnExactMatrixRank", fn := fun _ => fun
  | [d1, d2] => { results := [.lit (.bool false)], args := [d1, d2] }
  | _ => none }
def FnExactMatrixRankWrongFalsely : Prop := fnExactMatrixRankRow.holds Try.pinned (OpenSpec.ofChange fnExactMatrixRankWrong)

/-- 'laws.FnExactReduceMatrix': WHATEVER THE INPUT: true; the input reads as it did. -/
def fnExactReduceMatrixSpec : ChangeSpec := { name := "fnExactReduceMatrix", fn := fun _ => fun
  | [d] => { results := [.lit (.bool true)], args := [d] }
  | _ => none }
def fnExactReduceMatrixRow : OpenClaim := { program := "ytopkfhnnapncgaa", sum := "9a25466455274e962f66f2d1f465d4635525ad29259bc1df2d4dfd3efd3bfaf1", func := "loop.example/g00593/laws.FnExactReduceMatrix", spec := "fnExactReduceMatrix", apart := false }
def FnExactReduceMatrixSaid : Prop := fnExactReduceMatrixRow.holds Try.pinned (OpenSpec.ofChange fnExactReduceMatrixSpec)

/-- ITS FALSE NEIGHBOUR: 'it returns false'. Refute it at one input. -/
def fnExactReduceMatrixWrong : ChangeSpec := { name := "fnExactReduceMatrix", fn := fun _ => fun
  | [d] => { results := [.lit (.bool false)], args := [d] }
  | _ => none }
def FnExactReduceMatrixWrongFalsely : Prop := fnExactReduceMatrixRow.holds Try.pinned (OpenSpec.ofChange fnExactReduceMatrixWrong)

/-- 'laws.FnExactDualMatrix': WHATEVER THE INPUT: true; the input reads as it did. -/
def fnExactDualMatrixSpec : ChangeSpec := { name := "fnExactDualMatrix", fn := fun _ => fun
  | [d] => { results := [.lit (.bool true)], args := [d] }
  | _ => none }
def fnExactDualMatrixRow : OpenClaim := { program := "ytopkfhnnapncgaa", sum := "9a25466455274e962f66f2d1f465d4635525ad29259bc1df2d4dfd3efd3bfaf1", func := "loop.example/g00593/laws.FnExactDualMatrix", spec := "fnExactDualMatrix", apart := false }
def FnExactDualMatrixSaid : Prop := fnExactDualMatrixRow.holds Try.pinned (OpenSpec.ofChange fnExactDualMatrixSpec)

/-- ITS FALSE NEIGHBOUR: 'it returns false'. Refute it at one input. -/
def fnExactDualMatrixWrong : ChangeSpec := { name := "fnExactDualMatrix", fn := fun _ => fun
  | [d] => { results := [.lit (.bool false)], args := [d] }
  | _ => none }
def FnExactDualMatrixWrongFalsely : Prop := fnExactDualMatrixRow.holds Try.pinned (OpenSpec.ofChange fnExactDualMatrixWrong)

/- THE SECOND FORM. 'bulk': how many values and letters a reading holds, each counted each time it is reached (what is shared counts as often as it is met; a slice's spare places count too). A statement '..UptoSaid' is the law's where the arguments, and the package variables that the reading takes, are together of bulk at most 1048576: NARROWER than '..Said'. Prove '..Said' where nothing that the law and all that it calls make is longer than what came in: it says more and counts as full. Else prove '..UptoSaid'. A law counts once. -/
mutual
def uptoBulk {H : Type} : DataW H → Nat
  | .lit (.string bytes) => bytes.length + 1
  | .lit _ => 1
  | .nil => 1
  | .ptr d => uptoBulk d + 1
  | .slice elems spare => uptoBulkAll elems + uptoBulkAll spare + 1
  | .agg parts => uptoBulkAll parts + 1
  | .iface _ d => uptoBulk d + 1
  | .map entries => uptoBulkEntries entries + 1
  | .held _ => 1
def uptoBulkAll {H : Type} : List (DataW H) → Nat
  | [] => 0
  | d :: r => uptoBulk d + uptoBulkAll r
def uptoBulkEntries {H : Type} : List (Lit × DataW H) → Nat
  | [] => 0
  | x :: r => uptoBulkEntry x + uptoBulkEntries r
def uptoBulkEntry {H : Type} : Lit × DataW H → Nat
  | (.string bytes, d) => bytes.length + uptoBulk d + 1
  | (_, d) => uptoBulk d + 1
 end
def uptoSmall : (H : Type) → List (DataW H) → Bool := fun _ ds => decide (uptoBulkAll ds ≤ 1048576)
def OpenSpec.upto (s : _root_.Go.ChangeSpec) : _root_.Go.OpenSpec := { _root_.Go.OpenSpec.ofChange s with cond := some uptoSmall }

/-- 'laws.FnExactOrthogonal', WHERE WHAT IT READS IS OF BULK AT MOST 1048576: true; the input reads as it did. -/
def fnExactOrthogonalUptoRow : OpenClaim := { program := "ytopkfhnnapncgaa", sum := "9a25466455274e962f66f2d1f465d4635525ad29259bc1df2d4dfd3efd3bfaf1", func := "loop.example/g00593/laws.FnExactOrthogonal", spec := "fnExactOrthogonal", apart := false, narrowed := true }
def FnExactOrthogonalUptoSaid : Prop := fnExactOrthogonalUptoRow.holds Try.pinned (OpenSpec.upto fnExactOrthogonalSpec)

/-- 'laws.FnExactColourings', WHERE WHAT IT READS IS OF BULK AT MOST 1048576: true; the input reads as it did. -/
def fnExactColouringsUptoRow : OpenClaim := { program := "ytopkfhnnapncgaa", sum := "9a25466455274e962f66f2d1f465d4635525ad29259bc1df2d4dfd3efd3bfaf1", func := "loop.example/g00593/laws.FnExactColourings", spec := "fnExactColourings", unfollowed := true, recurses := true, apart := false, narrowed := true }
def FnExactColouringsUptoSaid : Prop := fnExactColouringsUptoRow.holds Try.pinned (OpenSpec.upto fnExactColouringsSpec)

/-- 'laws.FnExactPiecesOf', WHERE WHAT IT READS IS OF BULK AT MOST 1048576: true; the input reads as it did. -/
def fnExactPiecesOfUptoRow : OpenClaim := { program := "ytopkfhnnapncgaa", sum := "9a25466455274e962f66f2d1f465d4635525ad29259bc1df2d4dfd3efd3bfaf1", func := "loop.example/g00593/laws.FnExactPiecesOf", spec := "fnExactPiecesOf", apart := false, narrowed := true }
def FnExactPiecesOfUptoSaid : Prop := fnExactPiecesOfUptoRow.holds Try.pinned (OpenSpec.upto fnExactPiecesOfSpec)

/-- 'laws.FnExactIncidenceMatrix', WHERE WHAT IT READS IS OF BULK AT MOST 1048576: true; the input reads as it did. -/
def fnExactIncidenceMatrixUptoRow : OpenClaim := { program := "ytopkfhnnapncgaa", sum := "9a25466455274e962f66f2d1f465d4635525ad29259bc1df2d4dfd3efd3bfaf1", func := "loop.example/g00593/laws.FnExactIncidenceMatrix", spec := "fnExactIncidenceMatrix", apart := false, narrowed := true }
def FnExactIncidenceMatrixUptoSaid : Prop := fnExactIncidenceMatrixUptoRow.holds Try.pinned (OpenSpec.upto fnExactIncidenceMatrixSpec)

/-- 'laws.FnExactFlows', WHERE WHAT IT READS IS OF BULK AT MOST 1048576: true; the input reads as it did. -/
def fnExactFlowsUptoRow : OpenClaim := { program := "ytopkfhnnapncgaa", sum := "9a25466455274e962f66f2d1f465d4635525ad29259bc1df2d4dfd3efd3bfaf1", func := "loop.example/g00593/laws.FnExactFlows", spec := "fnExactFlows", unfollowed := true, recurses := true, apart := false, narrowed := true }
def FnExactFlowsUptoSaid : Prop := fnExactFlowsUptoRow.holds Try.pinned (OpenSpec.upto fnExactFlowsSpec)

/-- 'laws.FnExactMatrixRank', WHERE WHAT IT READS IS OF BULK AT MOST 1048576: true; the input reads as it did. -/
def fnExactMatrixRankUptoRow : OpenClaim := { program := "ytopkfhnnapncgaa", sum := "9a25466455274e962f66f2d1f465d4635525ad29259bc1df2d4dfd3efd3bfaf1", func := "loop.example/g00593/laws.FnExactMatrixRank", spec := "fnExactMatrixRank", apart := false, narrowed := true }
def FnExactMatrixRankUptoSaid : Prop := fnExactMatrixRankUptoRow.holds Try.pinned (OpenSpec.upto fnExactMatrixRankSpec)

/-- 'laws.FnExactReduceMatrix', WHERE WHAT IT READS IS OF BULK AT MOST 1048576: true; the input reads as it did. -/
def fnExactReduceMatrixUptoRow : OpenClaim := { program := "ytopkfhnnapncgaa", sum := "9a25466455274e962f66f2d1f465d4635525ad29259bc1df2d4dfd3efd3bfaf1", func := "loop.example/g00593/laws.FnExactReduceMatrix", spec := "fnExactReduceMatrix", apart := false, narrowed := true }
def FnExactReduceMatrixUptoSaid : Prop := fnExactReduceMatrixUptoRow.holds Try.pinned (OpenSpec.upto fnExactReduceMatrixSpec)

/-- 'laws.FnExactDualMatrix', WHERE WHAT IT READS IS OF BULK AT MOST 1048576: true; the input reads as it did. -/
def fnExactDualMatrixUptoRow : OpenClaim := { program := "ytopkfhnnapncgaa", sum := "9a25466455274e962f66f2d1f465d4635525ad29259bc1df2d4dfd3efd3bfaf1", func := "loop.example/g00593/laws.FnExactDualMatrix", spec := "fnExactDualMatrix", apart := false, narrowed := true }
def FnExactDualMatrixUptoSaid : Prop := fnExactDualMatrixUptoRow.holds Try.pinned (OpenSpec.upto fnExactDualMatrixSpec)

end Rows
end Go.Proofs.Ytopkfhnnapncgaa
