/- Loops of a few rounds, round by round; elements of arrays that are values. No condition. -/
import Derived.Test.YtacmbiohjiogiaaK19
import Derived.LoopN
namespace Go.Proofs.Ytacmbiohjiogiaa.K
open Go.RowKit
section
variable {P : Program} {N : Nat} {w0 : World} {V : Mem} {Q : Exit → Frm → List Grp → Prop} {f : Frm} {L : List Grp} {c : Code}
/-- A loop that ends within so many rounds. -/
def roundS (P : Program) (N : Nat) (w0 : World) (V : Mem) (c : Code) (Q : Exit → Frm → List Grp → Prop) : Nat → Frm → List Grp → Prop
 | 0, _, _ => False
 | n + 1, f, L => wpS P N w0 V c (thenS (roundS P N w0 V c Q n) Q) f L
theorem r_succ {n : Nat} (h : wpS P N w0 V c (thenS (roundS P N w0 V c Q n) Q) f L) : roundS P N w0 V c Q (n + 1) f L := h
theorem s_rounds (n : Nat) (h : roundS P N w0 V c Q n f L) : wpS P N w0 V (.loop c) Q f L := by
 have key : ∀ (n : Nat) (f : Frm) (L : List Grp) (a : Act) (w : World), Rep N f a → SH w0 V w L → roundS P N w0 V c Q n f L → Code.rounds P c (lift N w0 V Q) n a w := by
  intro n
  induction n with
  | zero => intro f L a w _ _ h; exact h.elim
  | succ n ih =>
   intro f L a w ha hw h; refine wp_mono (h a w ha hw) ?_; rintro e a' w' ⟨f', L', h1, h2, h3⟩
   cases e with
   | normal => exact ih f' L' a' w' h1 h2 h3
   | exit id => exact ⟨f', L', h1, h2, h3⟩
   | goto l => exact ⟨f', L', h1, h2, h3⟩
   | ret => exact ⟨f', L', h1, h2, h3⟩
   | panic ch => exact ⟨f', L', h1, h2, h3⟩
   | outgrown => exact ⟨f', L', h1, h2, h3⟩
 intro a w ha hw; exact wp_loop_rounds n (key n f L a w ha hw h)
end
theorem y_indexv {P : Program} {V : Mem} {L : List Grp} {f : Frm} {x y : Operand} {d : Option Tmp} {ty : TypeId} {ps : String} {af : Array Edge} {g : Option (Nat × Bool)} {t E : TypeId} {m z q : Nat} {k : IntKind} {i : Int} {vs : Array Value} {us : List Value} (ht : ∀ w, (underlying t).run P w = .ok (.array m E) w) (ha : ∀ w, (isAgg E).run P w = .ok true w) (hz : ∀ w, (sizeOf E).run P w = .ok z w)
  (hx : evF f x = .agg vs) (hy : evF f y = .int k i) (h : (Nat.blt i.toNat m && decide (0 ≤ i)) = true) (hq : i.toNat * z = q) (hu : vs.extract q (q + z) = us.toArray) : Yld P f V L ⟨d, .index t x y, ty, ps, af, g⟩ (.agg us.toArray) := fun _ w _ => by
 have h' : 0 ≤ i ∧ i < m := by simp [Nat.blt_eq] at h; omega
 subst hq; simp only [execOp, hx, hy, Instr.index, Sem.run_bind, asIntOf, Sem.run_pure, Result.andThen_ok, ht, asAgg, if_pos h', hz, part, ha, if_true, hu]
end Go.Proofs.Ytacmbiohjiogiaa.K
