/- Closed facts of the row of GameFlat. No condition. -/
import Derived.Test.YtlkajdcgdoijjaaGreatDoorRows
import Derived.JoinedCond
import Derived.JoinedOf
namespace Go.Proofs.YtlkajdcgdoijjaaGreatDoor.GameFlat
open Go
set_option maxRecDepth 100000
theorem fct0 : (Rows.gameFlatUptoRow.wf (OpenSpec.ofChange (Rows.OpenSpec.upto Rows.gameFlatSpec).bare)) = true := by kernel_rfl
theorem fct1 : (laidOutB Tryz.prog) = true := by kernel_rfl
theorem fct2 : (mapsRowed Tryz.prog) = true := by kernel_rfl
theorem fct3 : (Tryz.f4.params.all (Tryz.prog.readableRec ·)) = true := by kernel_rfl
theorem fct4 : (namedTie Tryz.prog Rows.gameFlatUptoRow.named (Rows.OpenSpec.upto Rows.gameFlatSpec).bare.vars) = true := by kernel_rfl
theorem fct5 : ((Rows.gameFlatUptoRow.stops == [])) = true := by kernel_rfl
theorem fct6 : ((Tryz.prog.stops == [])) = true := by kernel_rfl
theorem fct7 : ((Rows.gameFlatUptoRow.knobs == [])) = true := by kernel_rfl
theorem fct8 : ((Tryz.prog.stopKnobs == [])) = true := by kernel_rfl
theorem fct9 : ((Rows.gameFlatUptoRow.inPlace == Tryz.prog.inPlace 4)) = true := by kernel_rfl
theorem fct10 : ((Rows.gameFlatUptoRow.unfollowed == Tryz.prog.unfollowed 4)) = true := by kernel_rfl
end Go.Proofs.YtlkajdcgdoijjaaGreatDoor.GameFlat
