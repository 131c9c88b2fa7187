/- Closed facts of the card of GameFlat, about the program alone. -/
import Derived.Test.YtlkajdcgdoijjaaGreatDoorRows
import Derived.Test.YtlkajdcgdoijjaaGreatDoorCards
import Derived.LaidOnce
import Derived.SevenTiedAt
namespace Go.Proofs.YtlkajdcgdoijjaaGreatDoor.GameFlat
set_option linter.unusedVariables false
set_option maxRecDepth 100000
theorem noUnsafe : Tryz.pinned.checked.prog.headLifts.contains "ownunsafe" = false := by kernel_rfl
theorem card1 : Rows.gameFlatUptoRow.wfByText (Rows.OpenSpec.upto Rows.gameFlatSpec) = true := by kernel_rfl
theorem card2 : Tryz.pinned.checked.prog.mainIs = some (true, ("cc2c73f04f6247db4c8ad0f7046b593ad013f6be22153732098dc8a631fcaa18" : String).toList) := by kernel_rfl
end Go.Proofs.YtlkajdcgdoijjaaGreatDoor.GameFlat
