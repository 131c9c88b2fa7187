/- More rules: slices compared with nil, bools, calls whose memory is told otherwise. No condition. -/
import Derived.Test.YtacmbiohjiogiaaK6
import Derived.Laws.Cover3
import Derived.Laws.Small
import Derived.Laws.ResultCell
namespace Go.Proofs.Ytacmbiohjiogiaa.K
open Go.RowKit

section
variable {P : Program} {N : Nat} {w0 : World} {V : Mem} {Q : Exit → Frm → List Grp → Prop} {f : Frm} {L : List Grp} {ops : Array Oper} {rest : List Oper} {o : Oper} {d : Nat} {x y : Operand} {v : Value}
variable {ty yt : TypeId} {ps : String} {af : Array Edge} {g : Option (Nat × Bool)}
theorem y_eql_nil {t e : TypeId} {A : Option Addr} {n c : Nat} (ht : P.underlying t = some (.slice e)) (hx : evF f x = .slice A n c) (hy : evF f y = .slice none 0 0) :
  Yld P f V L ⟨some d, .binOp .eql t x y yt, ty, ps, af, g⟩ (.bool (decide (A = none))) := fun _ w _ => by
 simp only [execOp, hx, hy, Sem.run_bind, eqGuard]
 cases A <;> simp [binOp, run_equal_slice_nil w t e _ n c ht]
theorem y_neq_nil {t e : TypeId} {A : Option Addr} {n c : Nat} (ht : P.underlying t = some (.slice e)) (hx : evF f x = .slice A n c) (hy : evF f y = .slice none 0 0) :
  Yld P f V L ⟨some d, .binOp .neq t x y yt, ty, ps, af, g⟩ (.bool (decide (A ≠ none))) := fun _ w _ => by
 simp only [execOp, hx, hy, Sem.run_bind, eqGuard]
 cases A <;> simp [binOp, run_equal_slice_nil w t e _ n c ht]
theorem y_eql_bool {t : TypeId} {a b : Bool} (ht : P.underlying t = some .bool) (hx : evF f x = .bool a) (hy : evF f y = .bool b) :
  Yld P f V L ⟨some d, .binOp .eql t x y yt, ty, ps, af, g⟩ (.bool (decide (a = b))) := fun _ w _ => by
 simp only [execOp, hx, hy, Sem.run_bind, eqGuard]
 cases a <;> cases b <;> simp [binOp, run_equal_bool w t _ _ ht]
end
theorem CallS.upto {P : Program} {fid : FuncId} {args : Array Value} {V : Mem} {L : List Grp} {R R' : Value → List Grp → Prop} (h : CallS P fid args V L R) (hr : ∀ v L', R v L' → ∃ L'', R' v L'' ∧ Sub L'' L') : CallS P fid args V L R' :=
 fun w0 w hw => (h w0 w hw).mono fun _ _ ⟨v, L', h1, h2, h3⟩ => by
  obtain ⟨L'', h4, h5⟩ := hr v L' h3; exact ⟨v, L'', h1, h5 _ _ _ h2, h4⟩
/-- Where a result is read. -/
inductive RV (P : Program) (V : Mem) (f : Frm) (L : List Grp) : ResultVar → Value → Prop
 | tmp {t : Nat} {v : Value} (h : f t = v) : RV P V f L (.tmp t) v
 | cell {t T : Nat} {A : Option Addr} {v : Value} (h : f t = .pointer A) (ht : ∀ w, (isAgg T).run P w = .ok false w) (hc : Cel V L A v) : RV P V f L (.cell t T) v
 | cells {t T n : Nat} {A : Option Addr} {cs : List Value} (h : f t = .pointer A) (ht : ∀ w, (isAgg T).run P w = .ok true w) (hz : ∀ w, (sizeOf T).run P w = .ok n w) (hn : cs.length = n) (hA : A.isSome = true) (hc : Cels V L A cs) : RV P V f L (.cell t T) (.agg cs.toArray)
def rv (tmps : Array Value) : ResultVar → Sem Value
 | .tmp t => pure (tmps.getD t undef)
 | .cell a t => do loadVar t (← asAddr (tmps.getD a undef))
theorem RV.run {P : Program} {V : Mem} {f : Frm} {L : List Grp} {r : ResultVar} {v : Value} (h : RV P V f L r v) {w0 w : World} (hw : SH w0 V w L) {tmps : Array Value} (ht : ∀ i, tmps.getD i undef = f i) : (rv tmps r).run P w = .ok v w := by
 cases h with
 | tmp h => show Result.ok _ _ = _; rw [ht, h]
 | cell h h1 hc =>
  obtain ⟨a, rfl⟩ := Option.isSome_iff_exists.1 hc.some; simp only [rv, ht, h, asAddr, Sem.run_bind, Sem.run_pure, Result.andThen_ok, loadVar, h1, Bool.false_eq_true, if_false, run_load, hc.cell hw]
 | cells h h1 hz hn hA hc =>
  obtain ⟨a, rfl⟩ := Option.isSome_iff_exists.1 hA; have hr := run_loadCells_list (P := P) (w := w) a _ (fun j v hj => (hc j v hj).cell hw); simp only [rv, ht, h, asAddr, Sem.run_bind, Sem.run_pure, Result.andThen_ok, loadVar, h1, if_true, hz]; rw [← hn, hr]
  rfl
theorem results_rv (fn : Func) (tmps : Array Value) : results fn tmps = (do let vs ← fn.results.mapM (rv tmps); pure (if h : vs.size = 1 then vs[0] else .tuple vs)) := by
 unfold results
 congr 2
theorem resv1 {P : Program} {fn : Func} {V : Mem} {f : Frm} {L : List Grp} {r : ResultVar} {v : Value} (h : fn.results = #[r]) (hr : RV P V f L r v) : Res P fn V f L v := fun N a w w0 ha hw => by
 rw [results_rv, h]; simp [hr.run hw ha.get]
theorem resv2 {P : Program} {fn : Func} {V : Mem} {f : Frm} {L : List Grp} {r s : ResultVar} {v u : Value} (h : fn.results = #[r, s]) (hr : RV P V f L r v) (hs : RV P V f L s u) : Res P fn V f L (.tuple #[v, u]) := fun N a w w0 ha hw => by
 rw [results_rv, h]; simp [hr.run hw ha.get, hs.run hw ha.get]
theorem resv3 {P : Program} {fn : Func} {V : Mem} {f : Frm} {L : List Grp} {r s q : ResultVar} {v u x : Value} (h : fn.results = #[r, s, q]) (hr : RV P V f L r v) (hs : RV P V f L s u) (hq : RV P V f L q x) : Res P fn V f L (.tuple #[v, u, x]) := fun N a w w0 ha hw => by
 rw [results_rv, h]; simp [hr.run hw ha.get, hs.run hw ha.get, hq.run hw ha.get]
end Go.Proofs.Ytacmbiohjiogiaa.K
