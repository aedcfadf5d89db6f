/-
  DERIVED. GIVEN WITH THE SEED: THE CARDS: each row of YtkeobjoaimedaaaGreatDoorRows.lean that lists a variable, with what it lists TIED to the program's text (the seventh form; the later family's looks); each row that meets fmt, with fmt's text TOLD by the authors' own Lean function (tested against real Go, not proved from fmt's source: count such statements apart). THE CARD IS WHAT COUNTS. Prove the row's statement (the work); the ties are given (YtkeobjoaimedaaaGreatDoorTie.lean); close each card by the builder's one call (the guide's Derived/Test/ToyasCard.lean, 'card_holds'). Laid BY PROGRAM, IN A SANDBOX (cutbox-door.mjs). By AI agents, Wed Nov 11 2026. No macro, syntax, notation, axiom, sorry.
-/
import Derived.Test.YtkeobjoaimedaaaGreatDoorRows
import GoSem.ClaimSeven
namespace Go.Proofs.YtkeobjoaimedaaaGreatDoor
namespace Rows

/-- THE TIED CARD OF 'laws.FnMatrices'. -/
def fnMatricesCard : Claim7 := { stood := { row := fnMatricesRow, standIns := [], harness := (true, "d94b11a1ed24e5428cf243b0fcce0056baa4c91c9aacbb8dba783a77eda77b32"), looks := true }, kinds := [], alts := [], laidByText := true, laidKinds := [.data, .data, .data, .data, .sentinel, .sentinel, .pinned], laidTests := true, laidLooks := .later }
def FnMatricesCardSaid : Prop := Claim7.holds Tryz.pinned (.plain (OpenSpec.ofChange fnMatricesSpec)) fnMatricesCard

/-- THE SECOND FORM's CARD OF 'laws.FnMatrices'. -/
def fnMatricesUptoCard : Claim7 := { stood := { row := fnMatricesUptoRow, standIns := [], harness := (true, "d94b11a1ed24e5428cf243b0fcce0056baa4c91c9aacbb8dba783a77eda77b32"), looks := true }, kinds := [], alts := [], laidByText := true, laidKinds := [.data, .data, .data, .data, .sentinel, .sentinel, .pinned], laidTests := true, laidLooks := .later }
def FnMatricesUptoCardSaid : Prop := Claim7.holds Tryz.pinned (.plain (OpenSpec.upto fnMatricesSpec)) fnMatricesUptoCard
end Rows
end Go.Proofs.YtkeobjoaimedaaaGreatDoor
