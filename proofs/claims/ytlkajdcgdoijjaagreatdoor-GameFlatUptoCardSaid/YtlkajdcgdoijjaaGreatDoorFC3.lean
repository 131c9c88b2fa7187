/- Closed facts of the card of GameFlat: no function of the program starts a goroutine. -/
import Derived.Test.YtlkajdcgdoijjaaGreatDoorRows
import Derived.LaidOnce
import Derived.SevenTiedAt
namespace Go.Proofs.YtlkajdcgdoijjaaGreatDoor.GameFlat
set_option linter.unusedVariables false
set_option maxRecDepth 100000
theorem goes_none (P : Program) (h : P.funcs.any Func.goes = false) (f : FuncId) : P.goes f = false := by
  have hall : ∀ g : Nat, (P.funcs[g]?).any Func.goes = false := by
    intro g
    cases e : P.funcs[g]? with
    | none => rfl
    | some fn =>
      cases hb : Func.goes fn with
      | false => exact hb
      | true =>
        exfalso
        have ht : P.funcs.any Func.goes = true := Array.any_eq_true'.2 ⟨fn, Array.mem_of_getElem? e, hb⟩
        rw [h] at ht; cases ht
  unfold Program.goes
  rw [h, Bool.and_false, Bool.or_false]
  exact List.any_eq_false.2 fun g _ => by rw [hall g]; simp
theorem nogo : Tryz.pinned.checked.prog.funcs.any Func.goes = false := by kernel_rfl
theorem goesBy_none (c : OpenClaim) (P : Program) (h : P.funcs.any Func.goes = false) : false = c.goesBy P := by
  have hg := goes_none P h
  have h1 : ∀ l : List FuncId, l.any P.goes = false := fun l => List.any_eq_false.2 fun g _ => by rw [hg g]; simp
  have ho : ∀ o : Option FuncId, o.any P.goes = false := fun o => by cases o with | none => rfl | some g => exact hg g
  unfold OpenClaim.goesBy Program.goesAt Program.goesFrom
  rw [ho, Bool.false_or]
  cases c.start <;> first | rfl | exact (h1 _).symm
theorem card5 : false = Rows.gameFlatUptoRow.goesBy Tryz.pinned.checked.prog := goesBy_none _ _ nogo
end Go.Proofs.YtlkajdcgdoijjaaGreatDoor.GameFlat
