/-
  DERIVED. GIVEN WITH THE SEED: THE CARDS: each row of YtccedlpflmmjjaaGreatDoorRows.lean that lists a variable, with what it lists TIED to the program's text (the seventh form; the later family's looks); each row that meets fmt, with fmt's text TOLD by the authors' own Lean function (tested against real Go, not proved from fmt's source: count such statements apart). THE CARD IS WHAT COUNTS. Prove the row's statement (the work); the ties are given (YtccedlpflmmjjaaGreatDoorTie.lean); close each card by the builder's one call (the guide's Derived/Test/ToyasCard.lean, 'card_holds'). Laid BY PROGRAM, IN A SANDBOX (cutbox-door.mjs). By AI agents, Wed Nov 11 2026. No macro, syntax, notation, axiom, sorry.
-/
import Derived.Test.YtccedlpflmmjjaaGreatDoorRows
import GoSem.ClaimSeven
namespace Go.Proofs.YtccedlpflmmjjaaGreatDoor
namespace Rows

/-- THE TIED CARD OF 'mummerlaw19.ExpandKnown'. -/
def expandKnownCard : Claim7 := { stood := { row := expandKnownRow, standIns := [], harness := (true, "a0e166838853feddcbfe11b6322616abd27464893874428d09acd2f951d5e18c"), looks := true }, kinds := [], alts := [], laidByText := true, laidKinds := [.data, .handle, .data, .pinned], laidTests := true, laidLooks := .later }
def ExpandKnownCardSaid : Prop := Claim7.holds Tryz.pinned (.plain (OpenSpec.ofChange expandKnownSpec)) expandKnownCard

/-- THE SECOND FORM's CARD OF 'mummerlaw19.ExpandKnown'. -/
def expandKnownUptoCard : Claim7 := { stood := { row := expandKnownUptoRow, standIns := [], harness := (true, "a0e166838853feddcbfe11b6322616abd27464893874428d09acd2f951d5e18c"), looks := true }, kinds := [], alts := [], laidByText := true, laidKinds := [.data, .handle, .data, .pinned], laidTests := true, laidLooks := .later }
def ExpandKnownUptoCardSaid : Prop := Claim7.holds Tryz.pinned (.plain (OpenSpec.upto expandKnownSpec)) expandKnownUptoCard
end Rows
end Go.Proofs.YtccedlpflmmjjaaGreatDoor
