/- Copies into a slice of the call's own. No condition. -/
import Derived.Test.YtacmbiohjiogiaaK12
namespace Go.Proofs.Ytacmbiohjiogiaa.K
open Go.RowKit
section
variable {P : Program} {N : Nat} {w0 : World} {V : Mem} {Q : Exit → Frm → List Grp → Prop} {f : Frm} {L : List Grp} {ops : Array Oper} {rest : List Oper} {d : Nat} {v : Value}
variable {ty : TypeId} {ps : String} {af : Array Edge} {x y : Operand}
theorem o_fuse {G H : Grp} {R : List Grp} (h : opsS P N w0 V ops Q rest f ((G ++ H) :: R)) : opsS P N w0 V ops Q rest f (G :: H :: R) :=
 o_sub _ (fun _ hw => hw.sublist (by simp)) h
end
end Go.Proofs.Ytacmbiohjiogiaa.K
