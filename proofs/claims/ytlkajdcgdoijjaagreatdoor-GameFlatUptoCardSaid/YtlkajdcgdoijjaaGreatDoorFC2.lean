/- Closed facts of the card of GameFlat, about the program alone. -/
import Derived.Test.YtlkajdcgdoijjaaGreatDoorRows
import Derived.Test.YtlkajdcgdoijjaaGreatDoorCards
import Derived.LaidOnce
import Derived.SevenTiedAt
namespace Go.Proofs.YtlkajdcgdoijjaaGreatDoor.GameFlat
set_option linter.unusedVariables false
set_option maxRecDepth 100000
theorem card3 : true = Tryz.pinned.checked.prog.looks [] := by kernel_rfl
theorem card4 : ([41, 41, 22, 3].all fun u => !Tryz.prog.wantsStandIn u) = true := by kernel_rfl
end Go.Proofs.YtlkajdcgdoijjaaGreatDoor.GameFlat
