/- Rows with listed variables: the state in which the variables lie as listed. No condition. -/
import Derived.Test.YtlkajdcgdoijjaaGreatDoorRows
import Derived.JoinedCond
import Derived.Deep.CondSized
import Derived.LaidLaws
import Derived.LaidMore
import Derived.LaidHandle
import Derived.ProofKit
import Derived.Stop.Joined
namespace Go.Proofs.YtlkajdcgdoijjaaGreatDoor.GameFlat
open Go.ChangeShapes Go.WideShapes Go.ChangeAt Go.RowKit Go
set_option linter.unusedVariables false
set_option maxRecDepth 100000
noncomputable abbrev door (os : Os) : World := ((World.doorLaid Tryz.prog 400 os).forCall (fun _ _ => 0) ⟨#[], #[.agg #[.int .i64 0, .slice none 0 0, .slice none 0 0, .slice none 0 0, .slice none 0 0, .slice none 0 0, .slice none 0 0], .agg #[.int .i64 0, .slice none 0 0, .slice none 0 0, .slice none 0 0, .slice none 0 0, .slice none 0 0, .slice none 0 0], .slice none 0 0, .int .i64 0], []⟩)
theorem door1 (os : Os) : (door os).variablesRefB Tryz.prog = true := by kernel_rfl
theorem door2 (os : Os) : ((door os).heap.toList.drop Tryz.prog.globals.size).take ((begin Tryz.prog (fun _ _ => 0) default).world.heap.size - Tryz.prog.globals.size) = (begin Tryz.prog (fun _ _ => 0) default).world.heap.toList.drop Tryz.prog.globals.size := by kernel_rfl
theorem door3 (os : Os) : Input.okWideB Tryz.prog (door os) 4 ⟨#[], #[.agg #[.int .i64 0, .slice none 0 0, .slice none 0 0, .slice none 0 0, .slice none 0 0, .slice none 0 0, .slice none 0 0], .agg #[.int .i64 0, .slice none 0 0, .slice none 0 0, .slice none 0 0, .slice none 0 0, .slice none 0 0, .slice none 0 0], .slice none 0 0, .int .i64 0], []⟩ = true := by kernel_rfl
theorem door4 (os : Os) (H : Type) (enc : TypeId × Value → H) : DataW.whole enc Tryz.prog (door os).memory Tryz.f4.params.toList (Rows.OpenSpec.upto Rows.gameFlatSpec).vars false [.agg #[.int .i64 0, .slice none 0 0, .slice none 0 0, .slice none 0 0, .slice none 0 0, .slice none 0 0, .slice none 0 0], .agg #[.int .i64 0, .slice none 0 0, .slice none 0 0, .slice none 0 0, .slice none 0 0, .slice none 0 0, .slice none 0 0], .slice none 0 0, .int .i64 0] 8 = some ([.agg [.lit (.int .i64 0), .agg [.nil, .nil, .nil], .nil, .nil, .nil], .agg [.lit (.int .i64 0), .agg [.nil, .nil, .nil], .nil, .nil, .nil], .nil, .lit (.int .i64 0)], [], []) := by kernel_rfl
theorem door5 (os : Os) (H : Type) (enc : TypeId × Value → H) : (Rows.OpenSpec.upto Rows.gameFlatSpec).bare.sizedB enc Tryz.prog Tryz.f4 false (door os).memory #[.agg #[.int .i64 0, .slice none 0 0, .slice none 0 0, .slice none 0 0, .slice none 0 0, .slice none 0 0, .slice none 0 0], .agg #[.int .i64 0, .slice none 0 0, .slice none 0 0, .slice none 0 0, .slice none 0 0, .slice none 0 0, .slice none 0 0], .slice none 0 0, .int .i64 0] 8 = true := by kernel_rfl
theorem door6 (os : Os) : (DataW.laidRun Tryz.prog (door os).memory 8 (Rows.gameFlatUptoRow.laid.map (·.1))).map (·.1) = some Rows.gameFlatUptoRow.laid := by kernel_rfl
theorem door7 (os : Os) : (DataW.laidRun Tryz.prog (door os).memory 8 (Rows.gameFlatUptoRow.laid.map (·.1))).map (fun x => decide x.2.Nodup && laidRowsB Tryz.prog (door os).memory x.2) = some true := by kernel_rfl
theorem door_met (os : Os) : laidMetH Tryz.prog Rows.gameFlatUptoRow.laid (door os).memory := laidMetH_of_parts3 (fuel := 8) (laidMet_of_run' 8 (door6 os) (door7 os)) rfl rfl
end Go.Proofs.YtlkajdcgdoijjaaGreatDoor.GameFlat
