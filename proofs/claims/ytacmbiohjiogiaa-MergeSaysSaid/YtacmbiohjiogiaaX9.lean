/- Plain laws of the merge. No condition beyond what each statement names. -/
import Derived.Test.YtacmbiohjiogiaaProg
import Derived.Test.YtacmbiohjiogiaaK17
import Derived.Test.YtacmbiohjiogiaaM1
import Derived.Test.YtacmbiohjiogiaaM2
import Derived.Test.YtacmbiohjiogiaaW1
import Derived.Test.YtacmbiohjiogiaaW2
import Derived.Test.YtacmbiohjiogiaaW3
import Derived.Test.YtacmbiohjiogiaaW4
import Derived.Test.YtacmbiohjiogiaaW5
import Derived.Test.YtacmbiohjiogiaaW6
import Derived.Test.YtacmbiohjiogiaaW7
import Derived.Test.YtacmbiohjiogiaaW8
import Derived.Test.YtacmbiohjiogiaaX1
import Derived.Test.YtacmbiohjiogiaaX2
import Derived.Test.YtacmbiohjiogiaaX3
import Derived.Test.YtacmbiohjiogiaaX4
import Derived.Test.YtacmbiohjiogiaaX5
import Derived.Test.YtacmbiohjiogiaaX6
import Derived.Test.YtacmbiohjiogiaaX7
import Derived.Test.YtacmbiohjiogiaaX8
set_option linter.unusedVariables false
set_option linter.unusedSimpArgs false
set_option maxRecDepth 100000
namespace Go.Proofs.Ytacmbiohjiogiaa.K
open Go.RowKit

theorem te_zero {wo wx wy : WR} (h0 : wErr wo.ks wo.gs wo.its = 0) (h1 : wErr wx.ks wx.gs wx.its = 0) (h2 : wErr wy.ks wy.gs wy.its = 0) (e1 : wo.ks.map KR.d = wx.ks.map KR.d) (e2 : wo.ks.map KR.d = wy.ks.map KR.d) : threeErr wo wx wy = 0 := by
 unfold threeErr; rw [if_neg (fun hh => hh h0), if_neg (fun hh => hh h1), if_neg (fun hh => hh h2), if_pos ⟨e1, e2⟩]

end Go.Proofs.Ytacmbiohjiogiaa.K
