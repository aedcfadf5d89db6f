/-
  No cell of these rows narrows 'for every input' (looked for: loops, veiled, ifaces, maps, wideKeys, modest, calm, conditions, laid).
  DERIVED. THE GIVEN ROWS OF THIS SEAT. 8 by the template 'for every input the law returns true; each argument reads behind the call as it read before'; 0 by the template 'total and deterministic' (their statements: YtkmcefhchhahhaaTotals.lean).
  GIVEN WITH THE SEED: the statements are not yours to turn. If you find one false, say at which input.
  Laid BY PROGRAM, IN A SANDBOX (cutbox-rows.mjs): the forced cells as the released guide's own fill.sh prints them over the translation ca734f55cb998813… (all of the seat's roots in one cut). By AI agents, Wed Nov 11 2026. No macro, syntax, notation, axiom, sorry.
-/
import Derived.Test.YtkmcefhchhahhaaChecked
import GoSem.Claim
import GoSem.ClaimJoined
import GoSem.ClaimMapViews
import Derived.JoinedTies
import Derived.KernelRfl
namespace Go.Proofs.Ytkmcefhchhahhaa
/- THE CELL 'sum', in the pinned program and in every row, IS THE sha256 OF THE DUMP (.gsa) THAT YtkmcefhchhahhaaProg.lean LOADS. Nothing in Lean hashes anything: it is a label: what it is worth is what the hold of that sum in a sandbox is worth. -/
noncomputable def Try.pinned : Pinned := { name := "ytkmcefhchhahhaa", sum := "ca734f55cb9988131eccde77a40ebf9d9bb66b36a6897e76adf3313ba330e863", checked := Try.checked }
namespace Rows
def none {H : Type} : Left H := { results := [], args := [] }

/-- 'laws.FnExactContractSet': WHATEVER THE INPUT: true; the input reads as it did. -/
def fnExactContractSetSpec : ChangeSpec := { name := "fnExactContractSet", fn := fun _ => fun
  | [d1, d2] => { results := [.lit (.bool true)], args := [d1, d2] }
  | _ => none }
def fnExactContractSetRow : OpenClaim := { program := "ytkmcefhchhahhaa", sum := "ca734f55cb9988131eccde77a40ebf9d9bb66b36a6897e76adf3313ba330e863", func := "loop.example/g00593/laws.FnExactContractSet", spec := "fnExactContractSet", unfollowed := true, recurses := true, apart := false }
def FnExactContractSetSaid : Prop := fnExactContractSetRow.holds Try.pinned (OpenSpec.ofChange fnExactContractSetSpec)

/-- ITS FALSE NEIGHBOUR: 'it returns false'. Refute it at one input. -/
def fnExactContractSetWrong : ChangeSpec := { name := "fnExactContractSet", fn := fun _ => fun
  | [d1, d2] => { results := [.lit (.bool false)], args := [d1, d2] }
  | _ => none }
def FnExactContractSetWrongFalsely : Prop := fnExactContractSetRow.holds Try.pinned (OpenSpec.ofChange fnExactContractSetWrong)

/-- 'laws.FnExactDeleteSet': WHATEVER THE INPUT: true; the input reads as it did. -/
def fnExactDeleteSetSpec : ChangeSpec := { name := "fnExactDeleteSet", fn := fun _ => fun
  | [d1, d2] => { results := [.lit (.bool true)], args := [d1, d2] }
  | _ => none }
def fnExactDeleteSetRow : OpenClaim := { program := "ytkmcefhchhahhaa", sum := "ca734f55cb9988131eccde77a40ebf9d9bb66b36a6897e76adf3313ba330e863", func := "loop.example/g00593/laws.FnExactDeleteSet", spec := "fnExactDeleteSet", unfollowed := true, recurses := true, apart := false }
def FnExactDeleteSetSaid : Prop := fnExactDeleteSetRow.holds Try.pinned (OpenSpec.ofChange fnExactDeleteSetSpec)

/-- ITS FALSE NEIGHBOUR: 'it returns false'. Refute it at one input. -/
def fnExactDeleteSetWrong : ChangeSpec := { name := "fnExactDeleteSet", fn := fun _ => fun
  | [d1, d2] => { results := [.lit (.bool false)], args := [d1, d2] }
  | _ => none }
def FnExactDeleteSetWrongFalsely : Prop := fnExactDeleteSetRow.holds Try.pinned (OpenSpec.ofChange fnExactDeleteSetWrong)

/-- 'laws.FnExactRestrictTo': WHATEVER THE INPUT: true; the input reads as it did. -/
def fnExactRestrictToSpec : ChangeSpec := { name := "fnExactRestrictTo", fn := fun _ => fun
  | [d1, d2] => { results := [.lit (.bool true)], args := [d1, d2] }
  | _ => none }
def fnExactRestrictToRow : OpenClaim := { program := "ytkmcefhchhahhaa", sum := "ca734f55cb9988131eccde77a40ebf9d9bb66b36a6897e76adf3313ba330e863", func := "loop.example/g00593/laws.FnExactRestrictTo", spec := "fnExactRestrictTo", unfollowed := true, recurses := true, apart := false }
def FnExactRestrictToSaid : Prop := fnExactRestrictToRow.holds Try.pinned (OpenSpec.ofChange fnExactRestrictToSpec)

/-- ITS FALSE NEIGHBOUR: 'it returns false'. Refute it at one input. -/
def fnExactRestrictToWrong : ChangeSpec := { name := "fnExactRestrictTo", fn := fun _ => fun
  | [d1, d2] => { results := [.lit (.bool false)], args := [d1, d2] }
  | _ => none }
def FnExactRestrictToWrongFalsely : Prop := fnExactRestrictToRow.holds Try.pinned (OpenSpec.ofChange fnExactRestrictToWrong)

/-- 'laws.FnExactMinorOf': WHATEVER THE INPUT: true; the input reads as it did. -/
def fnExactMinorOfSpec : ChangeSpec := { name := "fnExactMinorOf", fn := fun _ => fun
  | [d1, d2, d3] => { results := [.lit (.bool true)], args := [d1, d2, d3] }
  | _ => none }
def fnExactMinorOfRow : OpenClaim := { program := "ytkmcefhchhahhaa", sum := "ca734f55cb9988131eccde77a40ebf9d9bb66b36a6897e76adf3313ba330e863", func := "loop.example/g00593/laws.FnExactMinorOf", spec := "fnExactMinorOf", unfollowed := true, recurses := true, apart := false }
def FnExactMinorOfSaid : Prop := fnExactMinorOfRow.holds Try.pinned (OpenSpec.ofChange fnExactMinorOfSpec)

/-- ITS FALSE NEIGHBOUR: 'it returns false'. Refute it at one input. -/
def fnExactMinorOfWrong : ChangeSpec := { name := "fnExactMinorOf", fn := fun _ => fun
  | [d1, d2, d3] => { results := [.lit (.bool false)], args := [d1, d2, d3] }
  | _ => none }
def FnExactMinorOfWrongFalsely : Prop := fnExactMinorOfRow.holds Try.pinned (OpenSpec.ofChange fnExactMinorOfWrong)

/-- 'laws.FnExactFindMinor': WHATEVER THE INPUT: true; the input reads as it did. -/
def fnExactFindMinorSpec : ChangeSpec := { name := "fnExactFindMinor", fn := fun _ => fun
  | [d1, d2] => { results := [.lit (.bool true)], args := [d1, d2] }
  | _ => none }
def fnExactFindMinorRow : OpenClaim := { program := "ytkmcefhchhahhaa", sum := "ca734f55cb9988131eccde77a40ebf9d9bb66b36a6897e76adf3313ba330e863", func := "loop.example/g00593/laws.FnExactFindMinor", spec := "fnExactFindMinor", unfollowed := true, recurses := true, apart := false }
def FnExactFindMinorSaid : Prop := fnExactFindMinorRow.holds Try.pinned (OpenSpec.ofChange fnExactFindMinorSpec)

/-- ITS FALSE NEIGHBOUR: 'it returns false'. Refute it at one input. -/
def fnExactFindMinorWrong : ChangeSpec := { name := "fnExactFindMinor", fn := fun _ => fun
  | [d1, d2] => { results := [.lit (.bool false)], args := [d1, d2] }
  | _ => none }
def FnExactFindMinorWrongFalsely : Prop := fnExactFindMinorRow.holds Try.pinned (OpenSpec.ofChange fnExactFindMinorWrong)

/-- 'laws.FnExactDirectSum': WHATEVER THE INPUT: true; the input reads as it did. -/
def fnExactDirectSumSpec : ChangeSpec := { name := "fnExactDirectSum", fn := fun _ => fun
  | [d1, d2] => { results := [.lit (.bool true)], args := [d1, d2] }
  | _ => none }
def fnExactDirectSumRow : OpenClaim := { program := "ytkmcefhchhahhaa", sum := "ca734f55cb9988131eccde77a40ebf9d9bb66b36a6897e76adf3313ba330e863", func := "loop.example/g00593/laws.FnExactDirectSum", spec := "fnExactDirectSum", unfollowed := true, recurses := true, apart := false }
def FnExactDirectSumSaid : Prop := fnExactDirectSumRow.holds Try.pinned (OpenSpec.ofChange fnExactDirectSumSpec)

/-- ITS FALSE NEIGHBOUR: 'it returns false'. Refute it at one input. -/
def fnExactDirectSumWrong : ChangeSpec := { name := "fnExactDirectSum", fn := fun _ => fun
  | [d1, d2] => { results := [.lit (.bool false)], args := [d1, d2] }
  | _ => none }
def FnExactDirectSumWrongFalsely : Prop := fnExactDirectSumRow.holds Try.pinned (OpenSpec.ofChange fnExactDirectSumWrong)

/-- 'laws.FnExactDualOf': WHATEVER THE INPUT: true; the input reads as it did. -/
def fnExactDualOfSpec : ChangeSpec := { name := "fnExactDualOf", fn := fun _ => fun
  | [d] => { results := [.lit (.bool true)], args := [d] }
  | _ => none }
def fnExactDualOfRow : OpenClaim := { program := "ytkmcefhchhahhaa", sum := "ca734f55cb9988131eccde77a40ebf9d9bb66b36a6897e76adf3313ba330e863", func := "loop.example/g00593/laws.FnExactDualOf", spec := "fnExactDualOf", unfollowed := true, recurses := true, apart := false }
def FnExactDualOfSaid : Prop := fnExactDualOfRow.holds Try.pinned (OpenSpec.ofChange fnExactDualOfSpec)

/-- ITS FALSE NEIGHBOUR: 'it returns false'. Refute it at one input. -/
def fnExactDualOfWrong : ChangeSpec := { name := "fnExactDualOf", fn := fun _ => fun
  | [d] => { results := [.lit (.bool false)], args := [d] }
  | _ => none }
def FnExactDualOfWrongFalsely : Prop := fnExactDualOfRow.holds Try.pinned (OpenSpec.ofChange fnExactDualOfWrong)

/-- 'laws.FnExactIsSelfDual': WHATEVER THE INPUT: true; the input reads as it did. -/
def fnExactIsSelfDualSpec : ChangeSpec := { name := "fnExactIsSelfDual", fn := fun _ => fun
  | [d] => { results := [.lit (.bool true)], args := [d] }
  | _ => none }
def fnExactIsSelfDualRow : OpenClaim := { program := "ytkmcefhchhahhaa", sum := "ca734f55cb9988131eccde77a40ebf9d9bb66b36a6897e76adf3313ba330e863", func := "loop.example/g00593/laws.FnExactIsSelfDual", spec := "fnExactIsSelfDual", unfollowed := true, recurses := true, apart := false }
def FnExactIsSelfDualSaid : Prop := fnExactIsSelfDualRow.holds Try.pinned (OpenSpec.ofChange fnExactIsSelfDualSpec)

/-- ITS FALSE NEIGHBOUR: 'it returns false'. Refute it at one input. -/
def fnExactIsSelfDualWrong : ChangeSpec := { name := "fnExactIsSelfDual", fn := fun _ => fun
  | [d] => { results := [.lit (.bool false)], args := [d] }
  | _ => none }
def FnExactIsSelfDualWrongFalsely : Prop := fnExactIsSelfDualRow.holds Try.pinned (OpenSpec.ofChange fnExactIsSelfDualWrong)

/- THE SECOND FORM. 'bulk': how many values and letters a reading holds, each counted each time it is reached (what is shared counts as often as it is met; a slice's spare places count too). A statement '..UptoSaid' is the law's where the arguments, and the package variables that the reading takes, are together of bulk at most 1048576: NARROWER than '..Said'. Prove '..Said' where nothing that the law and all that it calls make is longer than what came in: it says more and counts as full. Else prove '..UptoSaid'. A law counts once. -/
mutual
def uptoBulk {H : Type} : DataW H → Nat
  | .lit (.string bytes) => bytes.length + 1
  | .lit _ => 1
  | .nil => 1
  | .ptr d => uptoBulk d + 1
  | .slice elems spare => uptoBulkAll elems + uptoBulkAll spare + 1
  | .agg parts => uptoBulkAll parts + 1
  | .iface _ d => uptoBulk d + 1
  | .map entries => uptoBulkEntries entries + 1
  | .held _ => 1
def uptoBulkAll {H : Type} : List (DataW H) → Nat
  | [] => 0
  | d :: r => uptoBulk d + uptoBulkAll r
def uptoBulkEntries {H : Type} : List (Lit × DataW H) → Nat
  | [] => 0
  | x :: r => uptoBulkEntry x + uptoBulkEntries r
def uptoBulkEntry {H : Type} : Lit × DataW H → Nat
  | (.string bytes, d) => bytes.length + uptoBulk d + 1
  | (_, d) => uptoBulk d + 1
 end
def uptoSmall : (H : Type) → List (DataW H) → Bool := fun _ ds => decide (uptoBulkAll ds ≤ 1048576)
def OpenSpec.upto (s : _root_.Go.ChangeSpec) : _root_.Go.OpenSpec := { _root_.Go.OpenSpec.ofChange s with cond := some uptoSmall }

/-- 'laws.FnExactContractSet', WHERE WHAT IT READS IS OF BULK AT MOST 1048576: true; the input reads as it did. -/
def fnExactContractSetUptoRow : OpenClaim := { program := "ytkmcefhchhahhaa", sum := "ca734f55cb9988131eccde77a40ebf9d9bb66b36a6897e76adf3313ba330e863", func := "loop.example/g00593/laws.FnExactContractSet", spec := "fnExactContractSet", unfollowed := true, recurses := true, apart := false, narrowed := true }
def FnExactContractSetUptoSaid : Prop := fnExactContractSetUptoRow.holds Try.pinned (OpenSpec.upto fnExactContractSetSpec)

/-- 'laws.FnExactDeleteSet', WHERE WHAT IT READS IS OF BULK AT MOST 1048576: true; the input reads as it did. -/
def fnExactDeleteSetUptoRow : OpenClaim := { program := "ytkmcefhchhahhaa", sum := "ca734f55cb9988131eccde77a40ebf9d9bb66b36a6897e76adf3313ba330e863", func := "loop.example/g00593/laws.FnExactDeleteSet", spec := "fnExactDeleteSet", unfollowed := true, recurses := true, apart := false, narrowed := true }
def FnExactDeleteSetUptoSaid : Prop := fnExactDeleteSetUptoRow.holds Try.pinned (OpenSpec.upto fnExactDeleteSetSpec)

/-- 'laws.FnExactRestrictTo', WHERE WHAT IT READS IS OF BULK AT MOST 1048576: true; the input reads as it did. -/
def fnExactRestrictToUptoRow : OpenClaim := { program := "ytkmcefhchhahhaa", sum := "ca734f55cb9988131eccde77a40ebf9d9bb66b36a6897e76adf3313ba330e863", func := "loop.example/g00593/laws.FnExactRestrictTo", spec := "fnExactRestrictTo", unfollowed := true, recurses := true, apart := false, narrowed := true }
def FnExactRestrictToUptoSaid : Prop := fnExactRestrictToUptoRow.holds Try.pinned (OpenSpec.upto fnExactRestrictToSpec)

/-- 'laws.FnExactMinorOf', WHERE WHAT IT READS IS OF BULK AT MOST 1048576: true; the input reads as it did. -/
def fnExactMinorOfUptoRow : OpenClaim := { program := "ytkmcefhchhahhaa", sum := "ca734f55cb9988131eccde77a40ebf9d9bb66b36a6897e76adf3313ba330e863", func := "loop.example/g00593/laws.FnExactMinorOf", spec := "fnExactMinorOf", unfollowed := true, recurses := true, apart := false, narrowed := true }
def FnExactMinorOfUptoSaid : Prop := fnExactMinorOfUptoRow.holds Try.pinned (OpenSpec.upto fnExactMinorOfSpec)

/-- 'laws.FnExactFindMinor', WHERE WHAT IT READS IS OF BULK AT MOST 1048576: true; the input reads as it did. -/
def fnExactFindMinorUptoRow : OpenClaim := { program := "ytkmcefhchhahhaa", sum := "ca734f55cb9988131eccde77a40ebf9d9bb66b36a6897e76adf3313ba330e863", func := "loop.example/g00593/laws.FnExactFindMinor", spec := "fnExactFindMinor", unfollowed := true, recurses := true, apart := false, narrowed := true }
def FnExactFindMinorUptoSaid : Prop := fnExactFindMinorUptoRow.holds Try.pinned (OpenSpec.upto fnExactFindMinorSpec)

/-- 'laws.FnExactDirectSum', WHERE WHAT IT READS IS OF BULK AT MOST 1048576: true; the input reads as it did. -/
def fnExactDirectSumUptoRow : OpenClaim := { program := "ytkmcefhchhahhaa", sum := "ca734f55cb9988131eccde77a40ebf9d9bb66b36a6897e76adf3313ba330e863", func := "loop.example/g00593/laws.FnExactDirectSum", spec := "fnExactDirectSum", unfollowed := true, recurses := true, apart := false, narrowed := true }
def FnExactDirectSumUptoSaid : Prop := fnExactDirectSumUptoRow.holds Try.pinned (OpenSpec.upto fnExactDirectSumSpec)

/-- 'laws.FnExactDualOf', WHERE WHAT IT READS IS OF BULK AT MOST 1048576: true; the input reads as it did. -/
def fnExactDualOfUptoRow : OpenClaim := { program := "ytkmcefhchhahhaa", sum := "ca734f55cb9988131eccde77a40ebf9d9bb66b36a6897e76adf3313ba330e863", func := "loop.example/g00593/laws.FnExactDualOf", spec := "fnExactDualOf", unfollowed := true, recurses := true, apart := false, narrowed := true }
def FnExactDualOfUptoSaid : Prop := fnExactDualOfUptoRow.holds Try.pinned (OpenSpec.upto fnExactDualOfSpec)

/-- 'laws.FnExactIsSelfDual', WHERE WHAT IT READS IS OF BULK AT MOST 1048576: true; the input reads as it did. -/
def fnExactIsSelfDualUptoRow : OpenClaim := { program := "ytkmcefhchhahhaa", sum := "ca734f55cb9988131eccde77a40ebf9d9bb66b36a6897e76adf3313ba330e863", func := "loop.example/g00593/laws.FnExactIsSelfDual", spec := "fnExactIsSelfDual", unfollowed := true, recurses := true, apart := false, narrowed := true }
def FnExactIsSelfDualUptoSaid : Prop := fnExactIsSelfDualUptoRow.holds Try.pinned (OpenSpec.upto fnExactIsSelfDualSpec)

end Rows
end Go.Proofs.Ytkmcefhchhahhaa
