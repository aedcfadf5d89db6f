/-
  No cell of these rows narrows 'for every input' (looked for: loops, veiled, ifaces, maps, wideKeys, modest, calm, conditions, laid).
  DERIVED. THE GIVEN ROWS OF THIS SEAT. 6 by the template 'for every input the law returns true; each argument reads behind the call as it read before'; 0 by the template 'total and deterministic' (their statements: YtjfdmgjfhplglaaTotals.lean).
  GIVEN WITH THE SEED: the statements are not yours to turn. If you find one false, say at which input.
  Laid BY PROGRAM, IN A SANDBOX (cutbox-rows.mjs): the forced cells as the released guide's own fill.sh prints them over the translation f2196b7eb971ffea… (all of the seat's roots in one cut). By AI agents, Wed Nov 11 2026. No macro, syntax, notation, axiom, sorry.
-/
import Derived.Test.YtjfdmgjfhplglaaChecked
import GoSem.Claim
import GoSem.ClaimJoined
import GoSem.ClaimMapViews
import Derived.JoinedTies
import Derived.KernelRfl
namespace Go.Proofs.Ytjfdmgjfhplglaa
/- THE CELL 'sum', in the pinned program and in every row, IS THE sha256 OF THE DUMP (.gsa) THAT YtjfdmgjfhplglaaProg.lean LOADS. Nothing in Lean hashes anything: it is a label: what it is worth is what the hold of that sum in a sandbox is worth. -/
noncomputable def Try.pinned : Pinned := { name := "ytjfdmgjfhplglaa", sum := "f2196b7eb971ffea08928feace64c9d0dc88aadfd35135969af862ca98bdfdc0", checked := Try.checked }
namespace Rows
def none {H : Type} : Left H := { results := [], args := [] }

/-- 'laws.FnExactInverseIn': WHATEVER THE INPUT: true; the input reads as it did. -/
def fnExactInverseInSpec : ChangeSpec := { name := "fnExactInverseIn", fn := fun _ => fun
  | [d1, d2] => { results := [.lit (.bool true)], args := [d1, d2] }
  | _ => none }
def fnExactInverseInRow : OpenClaim := { program := "ytjfdmgjfhplglaa", sum := "f2196b7eb971ffea08928feace64c9d0dc88aadfd35135969af862ca98bdfdc0", func := "loop.example/g00593/laws.FnExactInverseIn", spec := "fnExactInverseIn", apart := false }
def FnExactInverseInSaid : Prop := fnExactInverseInRow.holds Try.pinned (OpenSpec.ofChange fnExactInverseInSpec)

/-- ITS FALSE NEIGHBOUR: 'it returns false'. Refute it at one input. -/
def fnExactInverseInWrong : ChangeSpec := { name := "fnExactInverseIn", fn := fun _ => fun
  | [d1, d2] => { results := [.lit (.bool false)], args := [d1, d2] }
  | _ => none }
def FnExactInverseInWrongFalsely : Prop := fnExactInverseInRow.holds Try.pinned (OpenSpec.ofChange fnExactInverseInWrong)

/-- 'laws.FnExactPackSet': WHATEVER THE INPUT: true; the input reads as it did. -/
def fnExactPackSetSpec : ChangeSpec := { name := "fnExactPackSet", fn := fun _ => fun
  | [d1, d2] => { results := [.lit (.bool true)], args := [d1, d2] }
  | _ => none }
def fnExactPackSetRow : OpenClaim := { program := "ytjfdmgjfhplglaa", sum := "f2196b7eb971ffea08928feace64c9d0dc88aadfd35135969af862ca98bdfdc0", func := "loop.example/g00593/laws.FnExactPackSet", spec := "fnExactPackSet", apart := false }
def FnExactPackSetSaid : Prop := fnExactPackSetRow.holds Try.pinned (OpenSpec.ofChange fnExactPackSetSpec)

/-- ITS FALSE NEIGHBOUR: 'it returns false'. Refute it at one input. -/
def fnExactPackSetWrong : ChangeSpec := { name := "fnExactPackSet", fn := fun _ => fun
  | [d1, d2] => { results := [.lit (.bool false)], args := [d1, d2] }
  | _ => none }
def FnExactPackSetWrongFalsely : Prop := fnExactPackSetRow.holds Try.pinned (OpenSpec.ofChange fnExactPackSetWrong)

/-- 'laws.FnExactUnpackSet': WHATEVER THE INPUT: true; the input reads as it did. -/
def fnExactUnpackSetSpec : ChangeSpec := { name := "fnExactUnpackSet", fn := fun _ => fun
  | [d1, d2] => { results := [.lit (.bool true)], args := [d1, d2] }
  | _ => none }
def fnExactUnpackSetRow : OpenClaim := { program := "ytjfdmgjfhplglaa", sum := "f2196b7eb971ffea08928feace64c9d0dc88aadfd35135969af862ca98bdfdc0", func := "loop.example/g00593/laws.FnExactUnpackSet", spec := "fnExactUnpackSet", apart := false }
def FnExactUnpackSetSaid : Prop := fnExactUnpackSetRow.holds Try.pinned (OpenSpec.ofChange fnExactUnpackSetSpec)

/-- ITS FALSE NEIGHBOUR: 'it returns false'. Refute it at one input. -/
def fnExactUnpackSetWrong : ChangeSpec := { name := "fnExactUnpackSet", fn := fun _ => fun
  | [d1, d2] => { results := [.lit (.bool false)], args := [d1, d2] }
  | _ => none }
def FnExactUnpackSetWrongFalsely : Prop := fnExactUnpackSetRow.holds Try.pinned (OpenSpec.ofChange fnExactUnpackSetWrong)

/-- 'laws.FnExactIsGraph': WHATEVER THE INPUT: true; the input reads as it did. -/
def fnExactIsGraphSpec : ChangeSpec := { name := "fnExactIsGraph", fn := fun _ => fun
  | [d] => { results := [.lit (.bool true)], args := [d] }
  | _ => none }
def fnExactIsGraphRow : OpenClaim := { program := "ytjfdmgjfhplglaa", sum := "f2196b7eb971ffea08928feace64c9d0dc88aadfd35135969af862ca98bdfdc0", func := "loop.example/g00593/laws.FnExactIsGraph", spec := "fnExactIsGraph", apart := false }
def FnExactIsGraphSaid : Prop := fnExactIsGraphRow.holds Try.pinned (OpenSpec.ofChange fnExactIsGraphSpec)

/-- ITS FALSE NEIGHBOUR: 'it returns false'. Refute it at one input. -/
def fnExactIsGraphWrong : ChangeSpec := { name := "fnExactIsGraph", fn := fun _ => fun
  | [d] => { results := [.lit (.bool false)], args := [d] }
  | _ => none }
def FnExactIsGraphWrongFalsely : Prop := fnExactIsGraphRow.holds Try.pinned (OpenSpec.ofChange fnExactIsGraphWrong)

/-- 'laws.FnExactIsMatrix': WHATEVER THE INPUT: true; the input reads as it did. -/
def fnExactIsMatrixSpec : ChangeSpec := { name := "fnExactIsMatrix", fn := fun _ => fun
  | [d] => { results := [.lit (.bool true)], args := [d] }
  | _ => none }
def fnExactIsMatrixRow : OpenClaim := { program := "ytjfdmgjfhplglaa", sum := "f2196b7eb971ffea08928feace64c9d0dc88aadfd35135969af862ca98bdfdc0", func := "loop.example/g00593/laws.FnExactIsMatrix", spec := "fnExactIsMatrix", apart := false }
def FnExactIsMatrixSaid : Prop := fnExactIsMatrixRow.holds Try.pinned (OpenSpec.ofChange fnExactIsMatrixSpec)

/-- ITS FALSE NEIGHBOUR: 'it returns false'. Refute it at one input. -/
def fnExactIsMatrixWrong : ChangeSpec := { name := "fnExactIsMatrix", fn := fun _ => fun
  | [d] => { results := [.lit (.bool false)], args := [d] }
  | _ => none }
def FnExactIsMatrixWrongFalsely : Prop := fnExactIsMatrixRow.holds Try.pinned (OpenSpec.ofChange fnExactIsMatrixWrong)

/-- 'laws.FnExactEqualMatrix': WHATEVER THE INPUT: true; the input reads as it did. -/
def fnExactEqualMatrixSpec : ChangeSpec := { name := "fnExactEqualMatrix", fn := fun _ => fun
  | [d1, d2] => { results := [.lit (.bool true)], args := [d1, d2] }
  | _ => none }
def fnExactEqualMatrixRow : OpenClaim := { program := "ytjfdmgjfhplglaa", sum := "f2196b7eb971ffea08928feace64c9d0dc88aadfd35135969af862ca98bdfdc0", func := "loop.example/g00593/laws.FnExactEqualMatrix", spec := "fnExactEqualMatrix", apart := false }
def FnExactEqualMatrixSaid : Prop := fnExactEqualMatrixRow.holds Try.pinned (OpenSpec.ofChange fnExactEqualMatrixSpec)

/-- ITS FALSE NEIGHBOUR: 'it returns false'. Refute it at one input. -/
def fnExactEqualMatrixWrong : ChangeSpec := { name := "fnExactEqualMatrix", fn := fun _ => fun
  | [d1, d2] => { results := [.lit (.bool false)], args := [d1, d2] }
  | _ => none }
def FnExactEqualMatrixWrongFalsely : Prop := fnExactEqualMatrixRow.holds Try.pinned (OpenSpec.ofChange fnExactEqualMatrixWrong)

/- THE SECOND FORM. 'bulk': how many values and letters a reading holds, each counted each time it is reached (what is shared counts as often as it is met; a slice's spare places count too). A statement '..UptoSaid' is the law's where the arguments, and the package variables that the reading takes, are together of bulk at most 1048576: NARROWER than '..Said'. Prove '..Said' where nothing that the law and all that it calls make is longer than what came in: it says more and counts as full. Else prove '..UptoSaid'. A law counts once. -/
mutual
def uptoBulk {H : Type} : DataW H → Nat
  | .lit (.string bytes) => bytes.length + 1
  | .lit _ => 1
  | .nil => 1
  | .ptr d => uptoBulk d + 1
  | .slice elems spare => uptoBulkAll elems + uptoBulkAll spare + 1
  | .agg parts => uptoBulkAll parts + 1
  | .iface _ d => uptoBulk d + 1
  | .map entries => uptoBulkEntries entries + 1
  | .held _ => 1
def uptoBulkAll {H : Type} : List (DataW H) → Nat
  | [] => 0
  | d :: r => uptoBulk d + uptoBulkAll r
def uptoBulkEntries {H : Type} : List (Lit × DataW H) → Nat
  | [] => 0
  | x :: r => uptoBulkEntry x + uptoBulkEntries r
def uptoBulkEntry {H : Type} : Lit × DataW H → Nat
  | (.string bytes, d) => bytes.length + uptoBulk d + 1
  | (_, d) => uptoBulk d + 1
 end
def uptoSmall : (H : Type) → List (DataW H) → Bool := fun _ ds => decide (uptoBulkAll ds ≤ 1048576)
def OpenSpec.upto (s : _root_.Go.ChangeSpec) : _root_.Go.OpenSpec := { _root_.Go.OpenSpec.ofChange s with cond := some uptoSmall }

/-- 'laws.FnExactInverseIn', WHERE WHAT IT READS IS OF BULK AT MOST 1048576: true; the input reads as it did. -/
def fnExactInverseInUptoRow : OpenClaim := { program := "ytjfdmgjfhplglaa", sum := "f2196b7eb971ffea08928feace64c9d0dc88aadfd35135969af862ca98bdfdc0", func := "loop.example/g00593/laws.FnExactInverseIn", spec := "fnExactInverseIn", apart := false, narrowed := true }
def FnExactInverseInUptoSaid : Prop := fnExactInverseInUptoRow.holds Try.pinned (OpenSpec.upto fnExactInverseInSpec)

/-- 'laws.FnExactPackSet', WHERE WHAT IT READS IS OF BULK AT MOST 1048576: true; the input reads as it did. -/
def fnExactPackSetUptoRow : OpenClaim := { program := "ytjfdmgjfhplglaa", sum := "f2196b7eb971ffea08928feace64c9d0dc88aadfd35135969af862ca98bdfdc0", func := "loop.example/g00593/laws.FnExactPackSet", spec := "fnExactPackSet", apart := false, narrowed := true }
def FnExactPackSetUptoSaid : Prop := fnExactPackSetUptoRow.holds Try.pinned (OpenSpec.upto fnExactPackSetSpec)

/-- 'laws.FnExactUnpackSet', WHERE WHAT IT READS IS OF BULK AT MOST 1048576: true; the input reads as it did. -/
def fnExactUnpackSetUptoRow : OpenClaim := { program := "ytjfdmgjfhplglaa", sum := "f2196b7eb971ffea08928feace64c9d0dc88aadfd35135969af862ca98bdfdc0", func := "loop.example/g00593/laws.FnExactUnpackSet", spec := "fnExactUnpackSet", apart := false, narrowed := true }
def FnExactUnpackSetUptoSaid : Prop := fnExactUnpackSetUptoRow.holds Try.pinned (OpenSpec.upto fnExactUnpackSetSpec)

/-- 'laws.FnExactIsGraph', WHERE WHAT IT READS IS OF BULK AT MOST 1048576: true; the input reads as it did. -/
def fnExactIsGraphUptoRow : OpenClaim := { program := "ytjfdmgjfhplglaa", sum := "f2196b7eb971ffea08928feace64c9d0dc88aadfd35135969af862ca98bdfdc0", func := "loop.example/g00593/laws.FnExactIsGraph", spec := "fnExactIsGraph", apart := false, narrowed := true }
def FnExactIsGraphUptoSaid : Prop := fnExactIsGraphUptoRow.holds Try.pinned (OpenSpec.upto fnExactIsGraphSpec)

/-- 'laws.FnExactIsMatrix', WHERE WHAT IT READS IS OF BULK AT MOST 1048576: true; the input reads as it did. -/
def fnExactIsMatrixUptoRow : OpenClaim := { program := "ytjfdmgjfhplglaa", sum := "f2196b7eb971ffea08928feace64c9d0dc88aadfd35135969af862ca98bdfdc0", func := "loop.example/g00593/laws.FnExactIsMatrix", spec := "fnExactIsMatrix", apart := false, narrowed := true }
def FnExactIsMatrixUptoSaid : Prop := fnExactIsMatrixUptoRow.holds Try.pinned (OpenSpec.upto fnExactIsMatrixSpec)

/-- 'laws.FnExactEqualMatrix', WHERE WHAT IT READS IS OF BULK AT MOST 1048576: true; the input reads as it did. -/
def fnExactEqualMatrixUptoRow : OpenClaim := { program := "ytjfdmgjfhplglaa", sum := "f2196b7eb971ffea08928feace64c9d0dc88aadfd35135969af862ca98bdfdc0", func := "loop.example/g00593/laws.FnExactEqualMatrix", spec := "fnExactEqualMatrix", apart := false, narrowed := true }
def FnExactEqualMatrixUptoSaid : Prop := fnExactEqualMatrixUptoRow.holds Try.pinned (OpenSpec.upto fnExactEqualMatrixSpec)

end Rows
end Go.Proofs.Ytjfdmgjfhplglaa
