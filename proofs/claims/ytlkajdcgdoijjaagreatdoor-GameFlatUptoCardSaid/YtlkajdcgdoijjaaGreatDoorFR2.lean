/- Closed facts of the row of GameFlat. No condition. -/
import Derived.Test.YtlkajdcgdoijjaaGreatDoorRows
import Derived.JoinedCond
import Derived.JoinedOf
namespace Go.Proofs.YtlkajdcgdoijjaaGreatDoor.GameFlat
open Go
set_option maxRecDepth 100000
theorem fct11 : ((Rows.gameFlatUptoRow.recurses == Tryz.prog.recurses 4)) = true := by kernel_rfl
theorem fct12 : ((Rows.gameFlatUptoRow.named == Tryz.prog.varsNamed 4)) = true := by kernel_rfl
theorem fct13 : ((Rows.gameFlatUptoRow.maps == (Tryz.f4.params.toList ++ (Rows.OpenSpec.upto Rows.gameFlatSpec).bare.plain.varTypes Tryz.prog).any (Tryz.prog.mapsRec ·))) = true := by kernel_rfl
theorem fct14 : ((Rows.gameFlatUptoRow.ifaces == (Tryz.f4.params.toList ++ (Rows.OpenSpec.upto Rows.gameFlatSpec).bare.plain.varTypes Tryz.prog).any (Tryz.prog.ifacesRec ·))) = true := by kernel_rfl
theorem fct15 : ((Rows.gameFlatUptoRow.mapsOut == Tryz.prog.mapsAmong Tryz.f4.resultTypes.toList)) = true := by kernel_rfl
theorem fct16 : ((Rows.gameFlatUptoRow.loops == (Tryz.f4.params.toList ++ (Rows.OpenSpec.upto Rows.gameFlatSpec).bare.plain.varTypes Tryz.prog).any (Tryz.prog.loopsFrom ·))) = true := by kernel_rfl
theorem fct17 : ((Rows.gameFlatUptoRow.wideKeys == (Tryz.f4.params.toList ++ (Rows.OpenSpec.upto Rows.gameFlatSpec).bare.plain.varTypes Tryz.prog ++ Tryz.f4.resultTypes.toList).any (Tryz.prog.wideKeysFrom ·))) = true := by kernel_rfl
theorem fct18 : ((Rows.OpenSpec.upto Rows.gameFlatSpec).bare.vars.all (Tryz.prog.varReadable ·)) = true := by kernel_rfl
theorem fct19 : (Tryz.f4.resultTypes.all (fun t => Tryz.prog.readableRec t && decide (t < Tryz.prog.types.size))) = true := by kernel_rfl
theorem fct20 : ((Rows.gameFlatUptoRow.ifacesOut == Tryz.f4.resultTypes.toList.any (Tryz.prog.ifacesRec ·))) = true := by kernel_rfl
theorem fct21 : ((Rows.gameFlatUptoRow.loopsOut == Tryz.f4.resultTypes.toList.any (Tryz.prog.loopsFrom ·))) = true := by kernel_rfl
end Go.Proofs.YtlkajdcgdoijjaaGreatDoor.GameFlat
