/- A closed fact of the program's tie. No condition. -/
import Derived.Test.YtlkajdcgdoijjaaGreatDoorRows
import Derived.LaidByTextLater
import Derived.SevenTiedAt
import Derived.LaidOnce
set_option maxRecDepth 100000
namespace Go.Proofs.YtlkajdcgdoijjaaGreatDoor.K
open Go
theorem tie_hn : varsNamedLaterB Tryz.prog (varsId Tryz.prog) ([("strconv.ErrSyntax", Rows.laid_strconv_ErrSyntax), ("strconv.ErrRange", Rows.laid_strconv_ErrRange), ("internal/strconv.uint64pow10", Rows.laid_internal_strconv_uint64pow10), ("math/bits.deBruijn32tab", Rows.laid_math_bits_deBruijn32tab), ("math/bits.deBruijn64tab", Rows.laid_math_bits_deBruijn64tab)] : List (String × DataW Unit)) = true := by kernel_rfl
end Go.Proofs.YtlkajdcgdoijjaaGreatDoor.K
