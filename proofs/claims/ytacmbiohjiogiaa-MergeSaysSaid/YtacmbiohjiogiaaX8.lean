/- Walks over the package tourkeep4: the fact of the merges. No condition beyond what each statement names. -/
import Derived.Test.YtacmbiohjiogiaaProg
import Derived.Test.YtacmbiohjiogiaaK17
import Derived.Test.YtacmbiohjiogiaaM1
import Derived.Test.YtacmbiohjiogiaaM2
import Derived.Test.YtacmbiohjiogiaaW1
import Derived.Test.YtacmbiohjiogiaaW2
import Derived.Test.YtacmbiohjiogiaaW3
import Derived.Test.YtacmbiohjiogiaaW4
import Derived.Test.YtacmbiohjiogiaaW5
import Derived.Test.YtacmbiohjiogiaaW6
import Derived.Test.YtacmbiohjiogiaaW7
import Derived.Test.YtacmbiohjiogiaaW8
import Derived.Test.YtacmbiohjiogiaaX1
import Derived.Test.YtacmbiohjiogiaaX2
import Derived.Test.YtacmbiohjiogiaaX3
import Derived.Test.YtacmbiohjiogiaaX4
import Derived.Test.YtacmbiohjiogiaaX5
import Derived.Test.YtacmbiohjiogiaaX6
import Derived.Test.YtacmbiohjiogiaaX7
import Derived.Test.YtacmbiohjiogiaaXK
set_option linter.unusedVariables false
set_option linter.unusedSimpArgs false
set_option maxRecDepth 100000
namespace Go.Proofs.Ytacmbiohjiogiaa.K
open Go.RowKit

theorem we (b : Nat) : wErr [spotK b] [0] [] = 0 := wErr_ok (spot_ok b) ⟨by decide, by decide⟩ (fun j hj => by have : j = 0 := (by simpa using hj); subst this; decide) (fun j hj => absurd hj (Nat.not_lt_zero j))

end Go.Proofs.Ytacmbiohjiogiaa.K
