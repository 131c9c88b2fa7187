/- Closed facts of the row of GameFlat. No condition. -/
import Derived.Test.YtlkajdcgdoijjaaGreatDoorRows
import Derived.JoinedCond
import Derived.JoinedOf
namespace Go.Proofs.YtlkajdcgdoijjaaGreatDoor.GameFlat
open Go
set_option maxRecDepth 100000
theorem fct22 : ((Rows.gameFlatUptoRow.plainKeys == Tryz.prog.plainKeys)) = true := by kernel_rfl
theorem fct23 : (Rows.gameFlatUptoRow.shortTexts.isNone) = true := by kernel_rfl
theorem fct24 : (Tryz.prog.stopsHeard) = true := by kernel_rfl
theorem fct25 : (Tryz.prog.mayEnter) = true := by kernel_rfl
theorem fct26 : ((Rows.gameFlatUptoRow.lifted == Tryz.prog.liftsFinal)) = true := by kernel_rfl
theorem fct27 : ((Tryz.prog.make == some Rows.gameFlatUptoRow.make)) = true := by kernel_rfl
theorem fct28 : ((Rows.gameFlatUptoRow.kinds == (if Rows.gameFlatUptoRow.domain.isEmpty then [] else Tryz.f4.params.toList.map fun t => match Tryz.prog.underlying t with | some (.int k) => some k | _ => none))) = true := by kernel_rfl
theorem fct29 : ((Rows.gameFlatUptoRow.pinned == Rows.gameFlatUptoRow.pinnedBy)) = true := by kernel_rfl
theorem fct30 : ((Rows.gameFlatUptoRow.veiled == (Tryz.f4.params.toList ++ (Rows.OpenSpec.upto Rows.gameFlatSpec).bare.plain.varTypes Tryz.prog ++ Tryz.f4.resultTypes.toList).any (Tryz.prog.veiledRec ·))) = true := by kernel_rfl
theorem fct31 : (Rows.gameFlatUptoRow.veiledFits Tryz.prog Tryz.f4.params.toList (Tryz.f4.params.toList ++ (Rows.OpenSpec.upto Rows.gameFlatSpec).bare.plain.varTypes Tryz.prog ++ Tryz.f4.resultTypes.toList)) = true := by kernel_rfl
end Go.Proofs.YtlkajdcgdoijjaaGreatDoor.GameFlat
