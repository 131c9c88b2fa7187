/- More rules: slices compared with nil, bools, calls whose memory is told otherwise. No condition. -/
import Derived.Test.YtppciokaldmipaaK6
import Derived.Laws.Cover3
import Derived.Laws.Small
namespace Go.Proofs.Ytppciokaldmipaa.K
open Go.RowKit

section
variable {P : Program} {N : Nat} {w0 : World} {V : Mem} {Q : Exit → Frm → List Grp → Prop} {f : Frm} {L : List Grp} {ops : Array Oper} {rest : List Oper} {o : Oper} {d : Nat} {x y : Operand} {v : Value}
variable {ty yt : TypeId} {ps : String} {af : Array Edge} {g : Option (Nat × Bool)}
theorem y_eql_nil {t e : TypeId} {A : Option Addr} {n c : Nat} (ht : P.underlying t = some (.slice e)) (hx : evF f x = .slice A n c) (hy : evF f y = .slice none 0 0) :
    Yld P f V L ⟨some d, .binOp .eql t x y yt, ty, ps, af, g⟩ (.bool (decide (A = none))) := fun _ w _ => by
  simp only [execOp, hx, hy, Sem.run_bind, eqGuard]
  cases A <;> simp [binOp, run_equal_slice_nil w t e _ n c ht]
theorem y_neq_nil {t e : TypeId} {A : Option Addr} {n c : Nat} (ht : P.underlying t = some (.slice e)) (hx : evF f x = .slice A n c) (hy : evF f y = .slice none 0 0) :
    Yld P f V L ⟨some d, .binOp .neq t x y yt, ty, ps, af, g⟩ (.bool (decide (A ≠ none))) := fun _ w _ => by
  simp only [execOp, hx, hy, Sem.run_bind, eqGuard]
  cases A <;> simp [binOp, run_equal_slice_nil w t e _ n c ht]
theorem y_eql_bool {t : TypeId} {a b : Bool} (ht : P.underlying t = some .bool) (hx : evF f x = .bool a) (hy : evF f y = .bool b) :
    Yld P f V L ⟨some d, .binOp .eql t x y yt, ty, ps, af, g⟩ (.bool (decide (a = b))) := fun _ w _ => by
  simp only [execOp, hx, hy, Sem.run_bind, eqGuard]
  cases a <;> cases b <;> simp [binOp, run_equal_bool w t _ _ ht]
theorem y_neq_bool {t : TypeId} {a b : Bool} (ht : P.underlying t = some .bool) (hx : evF f x = .bool a) (hy : evF f y = .bool b) :
    Yld P f V L ⟨some d, .binOp .neq t x y yt, ty, ps, af, g⟩ (.bool (decide (a ≠ b))) := fun _ w _ => by
  simp only [execOp, hx, hy, Sem.run_bind, eqGuard]
  cases a <;> cases b <;> simp [binOp, run_equal_bool w t _ _ ht]
theorem one_bool (bs : List Bool) : ∀ c ∈ bs.map Value.bool, c.oneCell' = true := by
  intro c hc; obtain ⟨b, _, rfl⟩ := List.mem_map.1 hc; rfl
theorem cel_bool {A : Option Addr} {bs : List Bool} (h : Cels V L A (bs.map .bool)) {i : Nat} (hi : i < bs.length) : Cel V L (idx A i) (.bool (bs.getD i false)) :=
  h.cel (by simp [hi])
theorem some_bool {A : Option Addr} {bs : List Bool} (h : Cels V L A (bs.map .bool)) {i : Nat} (hi : i < bs.length) : A.isSome = true := h.isSome (i := i) (by simpa using hi)
end
theorem CallS.upto {P : Program} {fid : FuncId} {args : Array Value} {V : Mem} {L : List Grp} {R R' : Value → List Grp → Prop} (h : CallS P fid args V L R) (hr : ∀ v L', R v L' → ∃ L'', R' v L'' ∧ Sub L'' L') : CallS P fid args V L R' :=
  fun w0 w hw => (h w0 w hw).mono fun _ _ ⟨v, L', h1, h2, h3⟩ => by
    obtain ⟨L'', h4, h5⟩ := hr v L' h3
    exact ⟨v, L'', h1, h5 _ _ _ h2, h4⟩
theorem sub_empty : Sub [[]] [] := fun _ _ _ h => h.perm (by simp)
end Go.Proofs.Ytppciokaldmipaa.K
