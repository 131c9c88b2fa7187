/- More rules: places of arrays, copies. No condition. -/
import Derived.Test.YtacmbiohjiogiaaK9
namespace Go.Proofs.Ytacmbiohjiogiaa.K
open Go.RowKit
section
variable {P : Program} {N : Nat} {w0 : World} {V : Mem} {Q : Exit → Frm → List Grp → Prop} {f : Frm} {L : List Grp} {ops : Array Oper} {rest : List Oper} {o : Oper} {d : Nat} {x y : Operand} {v : Value}
variable {ty yt : TypeId} {ps : String} {af : Array Edge} {g : Option (Nat × Bool)}
theorem y_index_arr {t E z m : Nat} {k : IntKind} {b off : Nat} {i : Int} (ht : ∀ w, (underlying t).run P w = .ok (.array m E) w) (hz : ∀ w, (sizeOf E).run P w = .ok z w) (hx : evF f x = .pointer (some ⟨b, off, none⟩)) (hy : evF f y = .int k i) (h : 0 ≤ i ∧ i < m) :
  Yld P f V L ⟨some d, .indexAddr t x y, ty, ps, af, g⟩ (.pointer (some ⟨b, off + i.toNat * z, none⟩)) := fun _ w _ => by
 simp only [execOp, hx, hy, Instr.indexAt, Sem.run_bind, asIntOf, Sem.run_pure, Result.andThen_ok, ht, Instr.sureAddr]; rw [if_pos h]; simp only [Sem.run_bind, hz, Result.andThen_ok, Sem.run_pure, add_plain]
/-- The same with a place that is written out. -/
theorem y_index_lit {t E z m q : Nat} {k : IntKind} {b off : Nat} {i : Int} (ht : ∀ w, (underlying t).run P w = .ok (.array m E) w) (hz : ∀ w, (sizeOf E).run P w = .ok z w) (hx : evF f x = .pointer (some ⟨b, off, none⟩)) (hy : evF f y = .int k i) (h : (Nat.blt i.toNat m && decide (0 ≤ i)) = true) (hq : off + i.toNat * z = q) :
  Yld P f V L ⟨some d, .indexAddr t x y, ty, ps, af, g⟩ (.pointer (some ⟨b, q, none⟩)) :=
 (y_index_arr ht hz hx hy (by simp [Nat.blt_eq] at h; omega)).of_eq (by rw [hq])
theorem s_norm {c : Code} (L' : List Grp) (hs : L = L') (h : wpS P N w0 V c Q f L') : wpS P N w0 V c Q f L := hs ▸ h
theorem sub_flat {L : List Grp} : Sub [L.flatten] L := fun _ _ _ h => h.sublist (by simp)
end
end Go.Proofs.Ytacmbiohjiogiaa.K
