/-
  No cell of these rows narrows 'for every input' (looked for: loops, veiled, ifaces, maps, wideKeys, modest, calm, conditions, laid).
  DERIVED. THE GIVEN ROWS OF THIS SEAT. 9 by the template 'for every input the law returns true; each argument reads behind the call as it read before'; 0 by the template 'total and deterministic' (their statements: YtmeopnlkddflaaaTotals.lean).
  GIVEN WITH THE SEED: the statements are not yours to turn. If you find one false, say at which input.
  Laid BY PROGRAM, IN A SANDBOX (cutbox-rows.mjs): the forced cells as the released guide's own fill.sh prints them over the translation 3801eb0080279f90… (all of the seat's roots in one cut). By AI agents, Wed Nov 11 2026. No macro, syntax, notation, axiom, sorry.
-/
import Derived.Test.YtmeopnlkddflaaaChecked
import GoSem.Claim
import GoSem.ClaimJoined
import GoSem.ClaimMapViews
import Derived.JoinedTies
import Derived.KernelRfl
namespace Go.Proofs.Ytmeopnlkddflaaa
/- THE CELL 'sum', in the pinned program and in every row, IS THE sha256 OF THE DUMP (.gsa) THAT YtmeopnlkddflaaaProg.lean LOADS. Nothing in Lean hashes anything: it is a label: what it is worth is what the hold of that sum in a sandbox is worth. -/
noncomputable def Try.pinned : Pinned := { name := "ytmeopnlkddflaaa", sum := "3801eb0080279f9002e0a8b779c3ec57ac2aa6dc184d7b3329785a74b09381e1", checked := Try.checked }
namespace Rows
def none {H : Type} : Left H := { results := [], args := [] }

/-- 'laws.FnExactDualRank': WHATEVER THE INPUT: true; the input reads as it did. -/
def fnExactDualRankSpec : ChangeSpec := { name := "fnExactDualRank", fn := fun _ => fun
  | [d1, d2] => { results := [.lit (.bool true)], args := [d1, d2] }
  | _ => none }
def fnExactDualRankRow : OpenClaim := { program := "ytmeopnlkddflaaa", sum := "3801eb0080279f9002e0a8b779c3ec57ac2aa6dc184d7b3329785a74b09381e1", func := "loop.example/g00593/laws.FnExactDualRank", spec := "fnExactDualRank", unfollowed := true, recurses := true, apart := false }
def FnExactDualRankSaid : Prop := fnExactDualRankRow.holds Try.pinned (OpenSpec.ofChange fnExactDualRankSpec)

/-- ITS FALSE NEIGHBOUR: 'it returns false'. Refute it at one input. -/
def fnExactDualRankWrong : ChangeSpec := { name := "fnExactDualRank", fn := fun _ => fun
  | [d1, d2] => { results := [.lit (.bool false)], args := [d1, d2] }
  | _ => none }
def FnExactDualRankWrongFalsely : Prop := fnExactDualRankRow.holds Try.pinned (OpenSpec.ofChange fnExactDualRankWrong)

/-- 'laws.FnExactConnectionOf': WHATEVER THE INPUT: true; the input reads as it did. -/
def fnExactConnectionOfSpec : ChangeSpec := { name := "fnExactConnectionOf", fn := fun _ => fun
  | [d1, d2] => { results := [.lit (.bool true)], args := [d1, d2] }
  | _ => none }
def fnExactConnectionOfRow : OpenClaim := { program := "ytmeopnlkddflaaa", sum := "3801eb0080279f9002e0a8b779c3ec57ac2aa6dc184d7b3329785a74b09381e1", func := "loop.example/g00593/laws.FnExactConnectionOf", spec := "fnExactConnectionOf", unfollowed := true, recurses := true, apart := false }
def FnExactConnectionOfSaid : Prop := fnExactConnectionOfRow.holds Try.pinned (OpenSpec.ofChange fnExactConnectionOfSpec)

/-- ITS FALSE NEIGHBOUR: 'it returns false'. Refute it at one input. -/
def fnExactConnectionOfWrong : ChangeSpec := { name := "fnExactConnectionOf", fn := fun _ => fun
  | [d1, d2] => { results := [.lit (.bool false)], args := [d1, d2] }
  | _ => none }
def FnExactConnectionOfWrongFalsely : Prop := fnExactConnectionOfRow.holds Try.pinned (OpenSpec.ofChange fnExactConnectionOfWrong)

/-- 'laws.FnExactRankTable': WHATEVER THE INPUT: true; the input reads as it did. -/
def fnExactRankTableSpec : ChangeSpec := { name := "fnExactRankTable", fn := fun _ => fun
  | [d] => { results := [.lit (.bool true)], args := [d] }
  | _ => none }
def fnExactRankTableRow : OpenClaim := { program := "ytmeopnlkddflaaa", sum := "3801eb0080279f9002e0a8b779c3ec57ac2aa6dc184d7b3329785a74b09381e1", func := "loop.example/g00593/laws.FnExactRankTable", spec := "fnExactRankTable", unfollowed := true, recurses := true, apart := false }
def FnExactRankTableSaid : Prop := fnExactRankTableRow.holds Try.pinned (OpenSpec.ofChange fnExactRankTableSpec)

/-- ITS FALSE NEIGHBOUR: 'it returns false'. Refute it at one input. -/
def fnExactRankTableWrong : ChangeSpec := { name := "fnExactRankTable", fn := fun _ => fun
  | [d] => { results := [.lit (.bool false)], args := [d] }
  | _ => none }
def FnExactRankTableWrongFalsely : Prop := fnExactRankTableRow.holds Try.pinned (OpenSpec.ofChange fnExactRankTableWrong)

/-- 'laws.FnExactAllRanks': WHATEVER THE INPUT: true; the input reads as it did. -/
def fnExactAllRanksSpec : ChangeSpec := { name := "fnExactAllRanks", fn := fun _ => fun
  | [d] => { results := [.lit (.bool true)], args := [d] }
  | _ => none }
def fnExactAllRanksRow : OpenClaim := { program := "ytmeopnlkddflaaa", sum := "3801eb0080279f9002e0a8b779c3ec57ac2aa6dc184d7b3329785a74b09381e1", func := "loop.example/g00593/laws.FnExactAllRanks", spec := "fnExactAllRanks", unfollowed := true, recurses := true, apart := false }
def FnExactAllRanksSaid : Prop := fnExactAllRanksRow.holds Try.pinned (OpenSpec.ofChange fnExactAllRanksSpec)

/-- ITS FALSE NEIGHBOUR: 'it returns false'. Refute it at one input. -/
def fnExactAllRanksWrong : ChangeSpec := { name := "fnExactAllRanks", fn := fun _ => fun
  | [d] => { results := [.lit (.bool false)], args := [d] }
  | _ => none }
def FnExactAllRanksWrongFalsely : Prop := fnExactAllRanksRow.holds Try.pinned (OpenSpec.ofChange fnExactAllRanksWrong)

/-- 'laws.FnExactFlats': WHATEVER THE INPUT: true; the input reads as it did. -/
def fnExactFlatsSpec : ChangeSpec := { name := "fnExactFlats", fn := fun _ => fun
  | [d] => { results := [.lit (.bool true)], args := [d] }
  | _ => none }
def fnExactFlatsRow : OpenClaim := { program := "ytmeopnlkddflaaa", sum := "3801eb0080279f9002e0a8b779c3ec57ac2aa6dc184d7b3329785a74b09381e1", func := "loop.example/g00593/laws.FnExactFlats", spec := "fnExactFlats", unfollowed := true, recurses := true, apart := false }
def FnExactFlatsSaid : Prop := fnExactFlatsRow.holds Try.pinned (OpenSpec.ofChange fnExactFlatsSpec)

/-- ITS FALSE NEIGHBOUR: 'it returns false'. Refute it at one input. -/
def fnExactFlatsWrong : ChangeSpec := { name := "fnExactFlats", fn := fun _ => fun
  | [d] => { results := [.lit (.bool false)], args := [d] }
  | _ => none }
def FnExactFlatsWrongFalsely : Prop := fnExactFlatsRow.holds Try.pinned (OpenSpec.ofChange fnExactFlatsWrong)

/-- 'laws.FnExactFromRankTable': WHATEVER THE INPUT: true; the input reads as it did. -/
def fnExactFromRankTableSpec : ChangeSpec := { name := "fnExactFromRankTable", fn := fun _ => fun
  | [d1, d2] => { results := [.lit (.bool true)], args := [d1, d2] }
  | _ => none }
def fnExactFromRankTableRow : OpenClaim := { program := "ytmeopnlkddflaaa", sum := "3801eb0080279f9002e0a8b779c3ec57ac2aa6dc184d7b3329785a74b09381e1", func := "loop.example/g00593/laws.FnExactFromRankTable", spec := "fnExactFromRankTable", unfollowed := true, recurses := true, apart := false }
def FnExactFromRankTableSaid : Prop := fnExactFromRankTableRow.holds Try.pinned (OpenSpec.ofChange fnExactFromRankTableSpec)

/-- ITS FALSE NEIGHBOUR: 'it returns false'. Refute it at one input. -/
def fnExactFromRankTableWrong : ChangeSpec := { name := "fnExactFromRankTable", fn := fun _ => fun
  | [d1, d2] => { results := [.lit (.bool false)], args := [d1, d2] }
  | _ => none }
def FnExactFromRankTableWrongFalsely : Prop := fnExactFromRankTableRow.holds Try.pinned (OpenSpec.ofChange fnExactFromRankTableWrong)

/-- 'laws.FnExactFlatsOfRank': WHATEVER THE INPUT: true; the input reads as it did. -/
def fnExactFlatsOfRankSpec : ChangeSpec := { name := "fnExactFlatsOfRank", fn := fun _ => fun
  | [d1, d2] => { results := [.lit (.bool true)], args := [d1, d2] }
  | _ => none }
def fnExactFlatsOfRankRow : OpenClaim := { program := "ytmeopnlkddflaaa", sum := "3801eb0080279f9002e0a8b779c3ec57ac2aa6dc184d7b3329785a74b09381e1", func := "loop.example/g00593/laws.FnExactFlatsOfRank", spec := "fnExactFlatsOfRank", unfollowed := true, recurses := true, apart := false }
def FnExactFlatsOfRankSaid : Prop := fnExactFlatsOfRankRow.holds Try.pinned (OpenSpec.ofChange fnExactFlatsOfRankSpec)

/-- ITS FALSE NEIGHBOUR: 'it returns false'. Refute it at one input. -/
def fnExactFlatsOfRankWrong : ChangeSpec := { name := "fnExactFlatsOfRank", fn := fun _ => fun
  | [d1, d2] => { results := [.lit (.bool false)], args := [d1, d2] }
  | _ => none }
def FnExactFlatsOfRankWrongFalsely : Prop := fnExactFlatsOfRankRow.holds Try.pinned (OpenSpec.ofChange fnExactFlatsOfRankWrong)

/-- 'laws.FnExactHyperplanes': WHATEVER THE INPUT: true; the input reads as it did. -/
def fnExactHyperplanesSpec : ChangeSpec := { name := "fnExactHyperplanes", fn := fun _ => fun
  | [d] => { results := [.lit (.bool true)], args := [d] }
  | _ => none }
def fnExactHyperplanesRow : OpenClaim := { program := "ytmeopnlkddflaaa", sum := "3801eb0080279f9002e0a8b779c3ec57ac2aa6dc184d7b3329785a74b09381e1", func := "loop.example/g00593/laws.FnExactHyperplanes", spec := "fnExactHyperplanes", unfollowed := true, recurses := true, apart := false }
def FnExactHyperplanesSaid : Prop := fnExactHyperplanesRow.holds Try.pinned (OpenSpec.ofChange fnExactHyperplanesSpec)

/-- ITS FALSE NEIGHBOUR: 'it returns false'. Refute it at one input. -/
def fnExactHyperplanesWrong : ChangeSpec := { name := "fnExactHyperplanes", fn := fun _ => fun
  | [d] => { results := [.lit (.bool false)], args := [d] }
  | _ => none }
def FnExactHyperplanesWrongFalsely : Prop := fnExactHyperplanesRow.holds Try.pinned (OpenSpec.ofChange fnExactHyperplanesWrong)

/-- 'laws.FnExactCoveringFlats': WHATEVER THE INPUT: true; the input reads as it did. -/
def fnExactCoveringFlatsSpec : ChangeSpec := { name := "fnExactCoveringFlats", fn := fun _ => fun
  | [d1, d2] => { results := [.lit (.bool true)], args := [d1, d2] }
  | _ => none }
def fnExactCoveringFlatsRow : OpenClaim := { program := "ytmeopnlkddflaaa", sum := "3801eb0080279f9002e0a8b779c3ec57ac2aa6dc184d7b3329785a74b09381e1", func := "loop.example/g00593/laws.FnExactCoveringFlats", spec := "fnExactCoveringFlats", unfollowed := true, recurses := true, apart := false }
def FnExactCoveringFlatsSaid : Prop := fnExactCoveringFlatsRow.holds Try.pinned (OpenSpec.ofChange fnExactCoveringFlatsSpec)

/-- ITS FALSE NEIGHBOUR: 'it returns false'. Refute it at one input. -/
def fnExactCoveringFlatsWrong : ChangeSpec := { name := "fnExactCoveringFlats", fn := fun _ => fun
  | [d1, d2] => { results := [.lit (.bool false)], args := [d1, d2] }
  | _ => none }
def FnExactCoveringFlatsWrongFalsely : Prop := fnExactCoveringFlatsRow.holds Try.pinned (OpenSpec.ofChange fnExactCoveringFlatsWrong)

/- THE SECOND FORM. 'bulk': how many values and letters a reading holds, each counted each time it is reached (what is shared counts as often as it is met; a slice's spare places count too). A statement '..UptoSaid' is the law's where the arguments, and the package variables that the reading takes, are together of bulk at most 1048576: NARROWER than '..Said'. Prove '..Said' where nothing that the law and all that it calls make is longer than what came in: it says more and counts as full. Else prove '..UptoSaid'. A law counts once. -/
mutual
def uptoBulk {H : Type} : DataW H → Nat
  | .lit (.string bytes) => bytes.length + 1
  | .lit _ => 1
  | .nil => 1
  | .ptr d => uptoBulk d + 1
  | .slice elems spare => uptoBulkAll elems + uptoBulkAll spare + 1
  | .agg parts => uptoBulkAll parts + 1
  | .iface _ d => uptoBulk d + 1
  | .map entries => uptoBulkEntries entries + 1
  | .held _ => 1
def uptoBulkAll {H : Type} : List (DataW H) → Nat
  | [] => 0
  | d :: r => uptoBulk d + uptoBulkAll r
def uptoBulkEntries {H : Type} : List (Lit × DataW H) → Nat
  | [] => 0
  | x :: r => uptoBulkEntry x + uptoBulkEntries r
def uptoBulkEntry {H : Type} : Lit × DataW H → Nat
  | (.string bytes, d) => bytes.length + uptoBulk d + 1
  | (_, d) => uptoBulk d + 1
 end
def uptoSmall : (H : Type) → List (DataW H) → Bool := fun _ ds => decide (uptoBulkAll ds ≤ 1048576)
def OpenSpec.upto (s : _root_.Go.ChangeSpec) : _root_.Go.OpenSpec := { _root_.Go.OpenSpec.ofChange s with cond := some uptoSmall }

/-- 'laws.FnExactDualRank', WHERE WHAT IT READS IS OF BULK AT MOST 1048576: true; the input reads as it did. -/
def fnExactDualRankUptoRow : OpenClaim := { program := "ytmeopnlkddflaaa", sum := "3801eb0080279f9002e0a8b779c3ec57ac2aa6dc184d7b3329785a74b09381e1", func := "loop.example/g00593/laws.FnExactDualRank", spec := "fnExactDualRank", unfollowed := true, recurses := true, apart := false, narrowed := true }
def FnExactDualRankUptoSaid : Prop := fnExactDualRankUptoRow.holds Try.pinned (OpenSpec.upto fnExactDualRankSpec)

/-- 'laws.FnExactConnectionOf', WHERE WHAT IT READS IS OF BULK AT MOST 1048576: true; the input reads as it did. -/
def fnExactConnectionOfUptoRow : OpenClaim := { program := "ytmeopnlkddflaaa", sum := "3801eb0080279f9002e0a8b779c3ec57ac2aa6dc184d7b3329785a74b09381e1", func := "loop.example/g00593/laws.FnExactConnectionOf", spec := "fnExactConnectionOf", unfollowed := true, recurses := true, apart := false, narrowed := true }
def FnExactConnectionOfUptoSaid : Prop := fnExactConnectionOfUptoRow.holds Try.pinned (OpenSpec.upto fnExactConnectionOfSpec)

/-- 'laws.FnExactRankTable', WHERE WHAT IT READS IS OF BULK AT MOST 1048576: true; the input reads as it did. -/
def fnExactRankTableUptoRow : OpenClaim := { program := "ytmeopnlkddflaaa", sum := "3801eb0080279f9002e0a8b779c3ec57ac2aa6dc184d7b3329785a74b09381e1", func := "loop.example/g00593/laws.FnExactRankTable", spec := "fnExactRankTable", unfollowed := true, recurses := true, apart := false, narrowed := true }
def FnExactRankTableUptoSaid : Prop := fnExactRankTableUptoRow.holds Try.pinned (OpenSpec.upto fnExactRankTableSpec)

/-- 'laws.FnExactAllRanks', WHERE WHAT IT READS IS OF BULK AT MOST 1048576: true; the input reads as it did. -/
def fnExactAllRanksUptoRow : OpenClaim := { program := "ytmeopnlkddflaaa", sum := "3801eb0080279f9002e0a8b779c3ec57ac2aa6dc184d7b3329785a74b09381e1", func := "loop.example/g00593/laws.FnExactAllRanks", spec := "fnExactAllRanks", unfollowed := true, recurses := true, apart := false, narrowed := true }
def FnExactAllRanksUptoSaid : Prop := fnExactAllRanksUptoRow.holds Try.pinned (OpenSpec.upto fnExactAllRanksSpec)

/-- 'laws.FnExactFlats', WHERE WHAT IT READS IS OF BULK AT MOST 1048576: true; the input reads as it did. -/
def fnExactFlatsUptoRow : OpenClaim := { program := "ytmeopnlkddflaaa", sum := "3801eb0080279f9002e0a8b779c3ec57ac2aa6dc184d7b3329785a74b09381e1", func := "loop.example/g00593/laws.FnExactFlats", spec := "fnExactFlats", unfollowed := true, recurses := true, apart := false, narrowed := true }
def FnExactFlatsUptoSaid : Prop := fnExactFlatsUptoRow.holds Try.pinned (OpenSpec.upto fnExactFlatsSpec)

/-- 'laws.FnExactFromRankTable', WHERE WHAT IT READS IS OF BULK AT MOST 1048576: true; the input reads as it did. -/
def fnExactFromRankTableUptoRow : OpenClaim := { program := "ytmeopnlkddflaaa", sum := "3801eb0080279f9002e0a8b779c3ec57ac2aa6dc184d7b3329785a74b09381e1", func := "loop.example/g00593/laws.FnExactFromRankTable", spec := "fnExactFromRankTable", unfollowed := true, recurses := true, apart := false, narrowed := true }
def FnExactFromRankTableUptoSaid : Prop := fnExactFromRankTableUptoRow.holds Try.pinned (OpenSpec.upto fnExactFromRankTableSpec)

/-- 'laws.FnExactFlatsOfRank', WHERE WHAT IT READS IS OF BULK AT MOST 1048576: true; the input reads as it did. -/
def fnExactFlatsOfRankUptoRow : OpenClaim := { program := "ytmeopnlkddflaaa", sum := "3801eb0080279f9002e0a8b779c3ec57ac2aa6dc184d7b3329785a74b09381e1", func := "loop.example/g00593/laws.FnExactFlatsOfRank", spec := "fnExactFlatsOfRank", unfollowed := true, recurses := true, apart := false, narrowed := true }
def FnExactFlatsOfRankUptoSaid : Prop := fnExactFlatsOfRankUptoRow.holds Try.pinned (OpenSpec.upto fnExactFlatsOfRankSpec)

/-- 'laws.FnExactHyperplanes', WHERE WHAT IT READS IS OF BULK AT MOST 1048576: true; the input reads as it did. -/
def fnExactHyperplanesUptoRow : OpenClaim := { program := "ytmeopnlkddflaaa", sum := "3801eb0080279f9002e0a8b779c3ec57ac2aa6dc184d7b3329785a74b09381e1", func := "loop.example/g00593/laws.FnExactHyperplanes", spec := "fnExactHyperplanes", unfollowed := true, recurses := true, apart := false, narrowed := true }
def FnExactHyperplanesUptoSaid : Prop := fnExactHyperplanesUptoRow.holds Try.pinned (OpenSpec.upto fnExactHyperplanesSpec)

/-- 'laws.FnExactCoveringFlats', WHERE WHAT IT READS IS OF BULK AT MOST 1048576: true; the input reads as it did. -/
def fnExactCoveringFlatsUptoRow : OpenClaim := { program := "ytmeopnlkddflaaa", sum := "3801eb0080279f9002e0a8b779c3ec57ac2aa6dc184d7b3329785a74b09381e1", func := "loop.example/g00593/laws.FnExactCoveringFlats", spec := "fnExactCoveringFlats", unfollowed := true, recurses := true, apart := false, narrowed := true }
def FnExactCoveringFlatsUptoSaid : Prop := fnExactCoveringFlatsUptoRow.holds Try.pinned (OpenSpec.upto fnExactCoveringFlatsSpec)

end Rows
end Go.Proofs.Ytmeopnlkddflaaa
