/- Proved: the card of GameFlat: the row, its listed variables tied to the program's text; for all arguments whose reading is of bulk at most 1048576. No condition. -/
import Derived.Test.YtlkajdcgdoijjaaGreatDoorFR4
import Derived.Test.YtlkajdcgdoijjaaGreatDoorTIA
import Derived.Test.YtlkajdcgdoijjaaGreatDoorTIB
import Derived.Test.YtlkajdcgdoijjaaGreatDoorTIC
import Derived.Test.YtlkajdcgdoijjaaGreatDoorFC1
import Derived.Test.YtlkajdcgdoijjaaGreatDoorFC2
import Derived.Test.YtlkajdcgdoijjaaGreatDoorFC3
import Derived.Test.YtlkajdcgdoijjaaGreatDoorCards
import Derived.LaidOnce
import Derived.SevenTiedAt
namespace Go.Proofs.YtlkajdcgdoijjaaGreatDoor.GameFlat
open Go.ChangeShapes Go.WideShapes Go.ChangeAt Go.RowKit Go.Proofs.YtlkajdcgdoijjaaGreatDoor.K
set_option linter.unusedVariables false
set_option maxRecDepth 100000
theorem tie : Tryz.prog.laidByTextLater Rows.gameFlatUptoRow.laid [.sentinel, .sentinel, .data, .data, .data] true := Program.laidByTextLater_by_one 62 8 70 tie_hw tie_hw2 tie_hroot tie_hk tie_hg tie_hn tie_one
theorem row_tie : Rows.gameFlatUptoRow.laidByTextAt .later Tryz.pinned [.sentinel, .sentinel, .data, .data, .data] true := OpenClaim.laidByTextAt_later rfl rfl tie noUnsafe
theorem proved : Rows.GameFlatUptoCardSaid :=
  Claim7.holds_tied_plain_at .later [] [.sentinel, .sentinel, .data, .data, .data] true (true, "cc2c73f04f6247db4c8ad0f7046b593ad013f6be22153732098dc8a631fcaa18") true
    over (fun _ h => by cases h) card1 (fun _ h => by cases h) row_tie rfl ⟨rfl, rfl⟩ card2 rfl
    (fun f fn hf hfn => by
      obtain rfl : f = 4 := Option.some.inj (named4.symm.trans hf) |>.symm
      obtain rfl : fn = Tryz.f4 := (Option.some.inj (Tryz.func4.symm.trans hfn)).symm
      exact ⟨card3, fun j t ht => by
        rw [Tryz.params4] at ht
        have hm : t ∈ [41, 41, 22, 3] := by simpa using Array.mem_of_getElem? ht
        exact (show Tryz.prog.wantsStandIn t = false by simpa using List.all_eq_true.1 card4 t hm)⟩)
    card5
#print axioms proved
end Go.Proofs.YtlkajdcgdoijjaaGreatDoor.GameFlat
