/- Walks: the reference's packing of frames, and the law on packing. No condition beyond what each statement names. -/
import Derived.Test.YtoigljcmpicgfaaProg
import Derived.Test.YtoigljcmpicgfaaK7
import Derived.Test.YtoigljcmpicgfaaB1
import Derived.Test.YtoigljcmpicgfaaI1
import Derived.Test.YtoigljcmpicgfaaI2
import Derived.Test.YtoigljcmpicgfaaI3
import Derived.Test.YtoigljcmpicgfaaI4
import Derived.Test.YtoigljcmpicgfaaI5
set_option linter.unusedVariables false
set_option linter.unusedSimpArgs false
set_option maxRecDepth 100000
namespace Go.Proofs.Ytoigljcmpicgfaa.K
open Go.RowKit

theorem os_pk {A : Option Addr} {n c : Nat} {T : TypeId} {E : Grp} {bb cc : List Bool} (h : OS A n c T 1 (bb.map .bool) E) (e : bb = cc) : OS A n c T 1 (cc.map .bool) E := e ▸ h

end Go.Proofs.Ytoigljcmpicgfaa.K
