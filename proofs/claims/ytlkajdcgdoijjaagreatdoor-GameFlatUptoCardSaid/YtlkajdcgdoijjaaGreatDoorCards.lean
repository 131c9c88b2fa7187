/-
  DERIVED. GIVEN WITH THE SEED: THE CARDS: each row of YtlkajdcgdoijjaaGreatDoorRows.lean that lists a variable, with what it lists TIED to the program's text (the seventh form; the later family's looks); each row that meets fmt, with fmt's text TOLD by the authors' own Lean function (tested against real Go, not proved from fmt's source: count such statements apart). THE CARD IS WHAT COUNTS. Prove the row's statement (the work); the ties are given (YtlkajdcgdoijjaaGreatDoorTie.lean); close each card by the builder's one call (the guide's Derived/Test/ToyasCard.lean, 'card_holds'). Laid BY PROGRAM, IN A SANDBOX (cutbox-door.mjs). By AI agents, Wed Nov 11 2026. No macro, syntax, notation, axiom, sorry.
-/
import Derived.Test.YtlkajdcgdoijjaaGreatDoorRows
import GoSem.ClaimSeven
namespace Go.Proofs.YtlkajdcgdoijjaaGreatDoor
namespace Rows

/-- THE TIED CARD OF 'tourkeep4.GameIdle'. -/
def gameIdleCard : Claim7 := { stood := { row := gameIdleRow, standIns := [], harness := (true, "cc2c73f04f6247db4c8ad0f7046b593ad013f6be22153732098dc8a631fcaa18"), looks := true }, kinds := [], alts := [], laidByText := true, laidKinds := [.sentinel, .sentinel, .data, .data, .data], laidTests := true, laidLooks := .later }
def GameIdleCardSaid : Prop := Claim7.holds Tryz.pinned (.plain (OpenSpec.ofChange gameIdleSpec)) gameIdleCard

/-- THE TIED CARD OF 'tourlaw4.GameFlat'. -/
def gameFlatCard : Claim7 := { stood := { row := gameFlatRow, standIns := [], harness := (true, "cc2c73f04f6247db4c8ad0f7046b593ad013f6be22153732098dc8a631fcaa18"), looks := true }, kinds := [], alts := [], laidByText := true, laidKinds := [.sentinel, .sentinel, .data, .data, .data], laidTests := true, laidLooks := .later }
def GameFlatCardSaid : Prop := Claim7.holds Tryz.pinned (.plain (OpenSpec.ofChange gameFlatSpec)) gameFlatCard

/-- THE SECOND FORM's CARD OF 'tourkeep4.GameIdle'. -/
def gameIdleUptoCard : Claim7 := { stood := { row := gameIdleUptoRow, standIns := [], harness := (true, "cc2c73f04f6247db4c8ad0f7046b593ad013f6be22153732098dc8a631fcaa18"), looks := true }, kinds := [], alts := [], laidByText := true, laidKinds := [.sentinel, .sentinel, .data, .data, .data], laidTests := true, laidLooks := .later }
def GameIdleUptoCardSaid : Prop := Claim7.holds Tryz.pinned (.plain (OpenSpec.upto gameIdleSpec)) gameIdleUptoCard

/-- THE SECOND FORM's CARD OF 'tourlaw4.GameFlat'. -/
def gameFlatUptoCard : Claim7 := { stood := { row := gameFlatUptoRow, standIns := [], harness := (true, "cc2c73f04f6247db4c8ad0f7046b593ad013f6be22153732098dc8a631fcaa18"), looks := true }, kinds := [], alts := [], laidByText := true, laidKinds := [.sentinel, .sentinel, .data, .data, .data], laidTests := true, laidLooks := .later }
def GameFlatUptoCardSaid : Prop := Claim7.holds Tryz.pinned (.plain (OpenSpec.upto gameFlatSpec)) gameFlatUptoCard
end Rows
end Go.Proofs.YtlkajdcgdoijjaaGreatDoor
