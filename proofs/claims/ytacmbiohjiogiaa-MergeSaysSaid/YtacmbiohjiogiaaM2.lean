/- Walks over the package bridge: kinds found by their names and fields. No condition beyond what each statement names. -/
import Derived.Test.YtacmbiohjiogiaaProg
import Derived.Test.YtacmbiohjiogiaaK9
import Derived.Test.YtacmbiohjiogiaaM1
set_option linter.unusedVariables false
set_option linter.unusedSimpArgs false
set_option maxRecDepth 100000
namespace Go.Proofs.Ytacmbiohjiogiaa.K
open Go.RowKit

theorem cel_str {V : Mem} {L : List Grp} {A : Option Addr} {bs : List ByteArray} (h : Cels V L A (bs.map .string)) {i : Nat} (hi : i < bs.length) : Cel V L (idx A i) (.string (bs.getD i ByteArray.empty)) :=
 h.cel (by simp [hi])
/-- The names of fields. -/
def names (fs : List FR) : List ByteArray := fs.map (·.name)
end Go.Proofs.Ytacmbiohjiogiaa.K
