/- Lists of groups laid into one group: one taken out, and put back. No condition. -/
import Derived.Test.YtacmbiohjiogiaaK18
namespace Go.Proofs.Ytacmbiohjiogiaa.K
open Go.RowKit
section
variable {P : Program} {N : Nat} {w0 : World} {V : Mem} {Q : Exit → Frm → List Grp → Prop} {f : Frm} {R : List Grp} {ops : Array Oper} {rest : List Oper}
end
theorem inG_list {gs : List Grp} {i : Nat} (hi : i < gs.length) : MSub (inG (gs.getD i [])) (inG gs.flatten) := fun _ _ hb =>
 List.mem_flatten.2 ⟨_, by rw [List.getD_eq_getElem?_getD, List.getElem?_eq_getElem hi, Option.getD_some]; exact List.getElem_mem hi, hb⟩
/-- What lies here or there. -/
def orM (V W : Mem) : Mem := fun b o => V b o ∨ W b o
theorem orM_left {V W : Mem} : MSub V (orM V W) := fun _ _ h => .inl h
theorem orM_right {V W : Mem} : MSub W (orM V W) := fun _ _ h => .inr h
theorem orM_ext {V : Mem} {L : List Grp} {G : Grp} {j : Nat} (hj : nth L j = some G) : MSub (orM V (inG G)) (ext V L) := fun b o h => h.elim (fun h => .inl h) (fun h => inG_ext hj b o h)
end Go.Proofs.Ytacmbiohjiogiaa.K
