/- Regions that draw their order, with groups that stay as they are till one operation. No condition. -/
import Derived.Test.YtacmbiohjiogiaaK17
set_option linter.unusedVariables false
namespace Go.Proofs.Ytacmbiohjiogiaa.K
open Go.RowKit
section
variable {P : Program} {ops : Array Oper} {C : Array Bool → World → Prop} {Q : Exit → Act → World → Prop}
end
section
variable {P : Program} {N : Nat} {w0 : World} {V : Mem} {L0 LA : List Grp} {Q : Exit → Frm → List Grp → Prop} {f : Frm} {L : List Grp} {ops : Array Oper} {o : Oper} {d kk : Nat} {v : Value}
variable {fuel i j : Nat} {listed : List Bool} {LD : List Grp} {b b' : Bool}
end
end Go.Proofs.Ytacmbiohjiogiaa.K
