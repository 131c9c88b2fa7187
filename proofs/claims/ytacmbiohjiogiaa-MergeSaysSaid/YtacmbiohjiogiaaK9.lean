/- More rules: makeSlice, small maps. No condition. -/
import Derived.Test.YtacmbiohjiogiaaK8
import Derived.Laws.MakeOwn
namespace Go.Proofs.Ytacmbiohjiogiaa.K
open Go.RowKit
section
variable {P : Program} {N : Nat} {w0 : World} {V : Mem} {Q : Exit → Frm → List Grp → Prop} {f : Frm} {L : List Grp} {ops : Array Oper} {rest : List Oper} {o : Oper} {d : Nat} {x y : Operand} {v : Value}
variable {ty yt : TypeId} {ps : String} {af : Array Edge} {g : Option (Nat × Bool)}
theorem yieldF_none {N : Nat} {f : Frm} {a : Act} (ha : Rep N f a) {ops : Array Oper} {j : Nat} (h : yieldF ops f j = none) : yielded ops a.tmps j = none := by
 unfold yieldF at h; unfold yielded
 cases hd : (ops[j]?).bind (·.dst) with
 | none => rfl
 | some d =>
  rw [hd] at h; simp only at h; have hg := ha.get d; simp only [Option.bind_some]
  cases ht : a.tmps[d]? with
  | none => rfl
  | some v =>
   have : f d = v := by rw [← hg]; simp [Array.getD_eq_getD_getElem?, ht]
   rw [this] at h
   cases v <;> first | rfl | (simp at h)
theorem o_guard_un {j : Nat} {b : Bool} {d : Nat} (hg : o.guard = some (j, b)) (hy : yieldF ops f j = none) (hd : o.dst = some d) (hN : Nat.blt d N = true) (h : opsS P N w0 V ops Q rest (upd f d undef) L) : opsS P N w0 V ops Q (o :: rest) f L := by
 intro a w ha hw; have hy' := yieldF_none ha hy; unfold wpList; rw [if_neg (by simp [Region.wanted, hg, hy']), hd]; exact h _ _ (ha.put hN undef) hw
theorem o_make {t e : TypeId} {i : TypeInfo} {z : Value} {sz bytes n : Nat} {k k' : IntKind} (hN : Nat.blt d N = true) (ht : P.underlying t = some (.slice e)) (hi : P.info? e = some i) (hz : i.zero = some z) (hsz : i.size = sz) (hby : i.bytes = bytes)
  (hx : evF f x = .int k n) (hy : evF f y = .int k' n) (hb : n ≤ 140737488355328 ∧ bytes * n ≤ 140737488355328)
  (h : ∀ A E, OS A n n e sz (madeCells z.cells (n * sz)).toList E → A.isSome = true → opsS P N w0 V ops Q rest (upd f d (.slice A n n)) (L ++ [E])) :
  opsS P N w0 V ops Q (⟨some d, .makeSlice t x y, ty, ps, af, none⟩ :: rest) f L := by
 subst hsz hby; refine o_effE (d := d) (fun v L' => ∃ A E, v = .slice A n n ∧ L' = L ++ [E] ∧ OS A n n e i.size (madeCells z.cells (n * i.size)).toList E ∧ A.isSome = true) rfl rfl hN (fun w hw => ?_) ?_
 ·have hr := run_make w t e i z ht hi hz k k' n n (by omega) (Int.le_refl _) (by omega) (by omega); refine ⟨_, _, _, ?_, hw.alloc _, _, _, rfl, rfl, ⟨by simp [size_madeCells], Nat.le_refl _, by unfold maxLen; omega, .inr ⟨w.heap.size, [], [], [], rfl, by simp; rfl, by simp [size_madeCells]⟩⟩, rfl⟩; simp only [execOp, hx, hy, Sem.run_bind, hr, Result.andThen_ok, Sem.run_pure, Int.toNat_natCast]
  rfl
 ·rintro v L' ⟨A, E, rfl, rfl, h1, h2⟩; exact h A E h1 h2
theorem made_one (v : Value) (n : Nat) : (madeCells #[v] (n * 1)).toList = List.replicate n v := by
 unfold madeCells
 apply List.ext_getElem
 ·simp
 ·intro i h1 h2; simp [Nat.mod_one]
theorem os_made_int {A : Option Addr} {n : Nat} {e : TypeId} {k : IntKind} {E : Grp} (h : OS A n n e 1 (madeCells (Value.int k 0).cells (n * 1)).toList E) : OS A n n e 1 ((List.replicate n (0 : Int)).map (.int k)) E := by
 rw [show (Value.int k 0).cells = #[.int k 0] from rfl, made_one] at h
 rwa [List.map_replicate]
end
end Go.Proofs.Ytacmbiohjiogiaa.K
