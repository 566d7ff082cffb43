/-
  DERIVED. GIVEN WITH THE SEED: THE CARDS: each row of YtiiookmnofhlmaaGreatDoorRows.lean that lists a variable, with what it lists TIED to the program's text (the seventh form; the later family's looks); each row that meets fmt, with fmt's text TOLD by the authors' own Lean function (tested against real Go, not proved from fmt's source: count such statements apart). THE CARD IS WHAT COUNTS. Prove the row's statement (the work); the ties are given (YtiiookmnofhlmaaGreatDoorTie.lean); close each card by the builder's one call (the guide's Derived/Test/ToyasCard.lean, 'card_holds'). Laid BY PROGRAM, IN A SANDBOX (cutbox-door.mjs). By AI agents, Wed Nov 11 2026. No macro, syntax, notation, axiom, sorry.
-/
import Derived.Test.YtiiookmnofhlmaaGreatDoorRows
import GoSem.ClaimSeven
namespace Go.Proofs.YtiiookmnofhlmaaGreatDoor
namespace Rows

/-- THE TIED CARD OF 'counterfoillaw23.ApplyKnown'. -/
def applyKnownCard : Claim7 := { stood := { row := applyKnownRow, standIns := [], harness := (true, "95aba7c9e4d64257e04e0f52e9f9b8ed9c433d29a22810974a4e6edbea888896"), looks := true }, kinds := [], alts := [], laidByText := true, laidKinds := [.data, .data, .data, .pinned, .data, .data, .listed, .sentinel, .sentinel], laidTests := true, laidLooks := .later }
def ApplyKnownCardSaid : Prop := Claim7.holds Tryz.pinned (.plain (OpenSpec.ofChange applyKnownSpec)) applyKnownCard

/-- THE SECOND FORM's CARD OF 'counterfoillaw23.ApplyKnown'. -/
def applyKnownUptoCard : Claim7 := { stood := { row := applyKnownUptoRow, standIns := [], harness := (true, "95aba7c9e4d64257e04e0f52e9f9b8ed9c433d29a22810974a4e6edbea888896"), looks := true }, kinds := [], alts := [], laidByText := true, laidKinds := [.data, .data, .data, .pinned, .data, .data, .listed, .sentinel, .sentinel], laidTests := true, laidLooks := .later }
def ApplyKnownUptoCardSaid : Prop := Claim7.holds Tryz.pinned (.plain (OpenSpec.upto applyKnownSpec)) applyKnownUptoCard
end Rows
end Go.Proofs.YtiiookmnofhlmaaGreatDoor
