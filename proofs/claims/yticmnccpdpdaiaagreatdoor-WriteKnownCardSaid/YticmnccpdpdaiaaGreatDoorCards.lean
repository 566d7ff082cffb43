/-
  DERIVED. GIVEN WITH THE SEED: THE CARDS: each row of YticmnccpdpdaiaaGreatDoorRows.lean that lists a variable, with what it lists TIED to the program's text (the seventh form; the later family's looks); each row that meets fmt, with fmt's text TOLD by the authors' own Lean function (tested against real Go, not proved from fmt's source: count such statements apart). THE CARD IS WHAT COUNTS. Prove the row's statement (the work); the ties are given (YticmnccpdpdaiaaGreatDoorTie.lean); close each card by the builder's one call (the guide's Derived/Test/ToyasCard.lean, 'card_holds'). Laid BY PROGRAM, IN A SANDBOX (cutbox-door.mjs). By AI agents, Wed Nov 11 2026. No macro, syntax, notation, axiom, sorry.
-/
import Derived.Test.YticmnccpdpdaiaaGreatDoorRows
import GoSem.ClaimSeven
namespace Go.Proofs.YticmnccpdpdaiaaGreatDoor
namespace Rows

/-- THE TIED CARD OF 'counterfoillaw20.WriteKnown'. -/
def writeKnownCard : Claim7 := { stood := { row := writeKnownRow, standIns := [], harness := (true, "782a50158869c17d264cc572c7757e2c24453ad016267f7c3efca7b012e5f3c3"), looks := true }, kinds := [], alts := [], laidByText := true, laidKinds := [.data, .data, .data, .pinned, .data, .data, .listed, .sentinel, .sentinel], laidTests := true, laidLooks := .later }
def WriteKnownCardSaid : Prop := Claim7.holds Tryz.pinned (.plain (OpenSpec.ofChange writeKnownSpec)) writeKnownCard

/-- THE SECOND FORM's CARD OF 'counterfoillaw20.WriteKnown'. -/
def writeKnownUptoCard : Claim7 := { stood := { row := writeKnownUptoRow, standIns := [], harness := (true, "782a50158869c17d264cc572c7757e2c24453ad016267f7c3efca7b012e5f3c3"), looks := true }, kinds := [], alts := [], laidByText := true, laidKinds := [.data, .data, .data, .pinned, .data, .data, .listed, .sentinel, .sentinel], laidTests := true, laidLooks := .later }
def WriteKnownUptoCardSaid : Prop := Claim7.holds Tryz.pinned (.plain (OpenSpec.upto writeKnownSpec)) writeKnownUptoCard
end Rows
end Go.Proofs.YticmnccpdpdaiaaGreatDoor
