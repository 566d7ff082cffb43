/-
  DERIVED. GIVEN WITH THE SEED: THE CARDS: each row of YtjoefbioobdinaaGreatDoorRows.lean that lists a variable, with what it lists TIED to the program's text (the seventh form; the later family's looks); each row that meets fmt, with fmt's text TOLD by the authors' own Lean function (tested against real Go, not proved from fmt's source: count such statements apart). THE CARD IS WHAT COUNTS. Prove the row's statement (the work); the ties are given (YtjoefbioobdinaaGreatDoorTie.lean); close each card by the builder's one call (the guide's Derived/Test/ToyasCard.lean, 'card_holds'). Laid BY PROGRAM, IN A SANDBOX (cutbox-door.mjs). By AI agents, Wed Nov 11 2026. No macro, syntax, notation, axiom, sorry.
-/
import Derived.Test.YtjoefbioobdinaaGreatDoorRows
import GoSem.ClaimSeven
namespace Go.Proofs.YtjoefbioobdinaaGreatDoor
namespace Rows

/-- THE TIED CARD OF 'counterfoillaw32.ConsoleReads'. -/
def consoleReadsCard : Claim7 := { stood := { row := consoleReadsRow, standIns := [], harness := (true, "56ccc94b269147e92fadfced6e5bcdee9cd36882ce7faca6448babe57942845f"), looks := true }, kinds := [], alts := [], laidByText := true, laidKinds := [.data, .data, .data, .sentinel, .sentinel, .pinned, .data, .data, .listed], laidTests := true, laidLooks := .later }
def ConsoleReadsCardSaid : Prop := Claim7.holds Tryz.pinned (.plain (OpenSpec.ofChange consoleReadsSpec)) consoleReadsCard

/-- THE TIED CARD OF 'counterfoillaw32.ConsoleWrites'. -/
def consoleWritesCard : Claim7 := { stood := { row := consoleWritesRow, standIns := [], harness := (true, "56ccc94b269147e92fadfced6e5bcdee9cd36882ce7faca6448babe57942845f"), looks := true }, kinds := [], alts := [], laidByText := true, laidKinds := [.data, .data, .data, .sentinel, .sentinel, .pinned, .data, .data, .listed], laidTests := true, laidLooks := .later }
def ConsoleWritesCardSaid : Prop := Claim7.holds Tryz.pinned (.plain (OpenSpec.ofChange consoleWritesSpec)) consoleWritesCard

/-- THE TIED CARD OF 'counterfoillaw32.ConsoleBack'. -/
def consoleBackCard : Claim7 := { stood := { row := consoleBackRow, standIns := [], harness := (true, "56ccc94b269147e92fadfced6e5bcdee9cd36882ce7faca6448babe57942845f"), looks := true }, kinds := [], alts := [], laidByText := true, laidKinds := [.data, .data, .data, .sentinel, .sentinel, .pinned, .data, .data, .listed], laidTests := true, laidLooks := .later }
def ConsoleBackCardSaid : Prop := Claim7.holds Tryz.pinned (.plain (OpenSpec.ofChange consoleBackSpec)) consoleBackCard

/-- THE SECOND FORM's CARD OF 'counterfoillaw32.ConsoleReads'. -/
def consoleReadsUptoCard : Claim7 := { stood := { row := consoleReadsUptoRow, standIns := [], harness := (true, "56ccc94b269147e92fadfced6e5bcdee9cd36882ce7faca6448babe57942845f"), looks := true }, kinds := [], alts := [], laidByText := true, laidKinds := [.data, .data, .data, .sentinel, .sentinel, .pinned, .data, .data, .listed], laidTests := true, laidLooks := .later }
def ConsoleReadsUptoCardSaid : Prop := Claim7.holds Tryz.pinned (.plain (OpenSpec.upto consoleReadsSpec)) consoleReadsUptoCard

/-- THE SECOND FORM's CARD OF 'counterfoillaw32.ConsoleWrites'. -/
def consoleWritesUptoCard : Claim7 := { stood := { row := consoleWritesUptoRow, standIns := [], harness := (true, "56ccc94b269147e92fadfced6e5bcdee9cd36882ce7faca6448babe57942845f"), looks := true }, kinds := [], alts := [], laidByText := true, laidKinds := [.data, .data, .data, .sentinel, .sentinel, .pinned, .data, .data, .listed], laidTests := true, laidLooks := .later }
def ConsoleWritesUptoCardSaid : Prop := Claim7.holds Tryz.pinned (.plain (OpenSpec.upto consoleWritesSpec)) consoleWritesUptoCard

/-- THE SECOND FORM's CARD OF 'counterfoillaw32.ConsoleBack'. -/
def consoleBackUptoCard : Claim7 := { stood := { row := consoleBackUptoRow, standIns := [], harness := (true, "56ccc94b269147e92fadfced6e5bcdee9cd36882ce7faca6448babe57942845f"), looks := true }, kinds := [], alts := [], laidByText := true, laidKinds := [.data, .data, .data, .sentinel, .sentinel, .pinned, .data, .data, .listed], laidTests := true, laidLooks := .later }
def ConsoleBackUptoCardSaid : Prop := Claim7.holds Tryz.pinned (.plain (OpenSpec.upto consoleBackSpec)) consoleBackUptoCard
end Rows
end Go.Proofs.YtjoefbioobdinaaGreatDoor
