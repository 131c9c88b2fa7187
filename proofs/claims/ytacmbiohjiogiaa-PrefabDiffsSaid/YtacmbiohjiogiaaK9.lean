/- More rules: makeSlice, small maps. No condition. -/
import Derived.Test.YtacmbiohjiogiaaK8
import Derived.Laws.MakeOwn
namespace Go.Proofs.Ytacmbiohjiogiaa.K
open Go.RowKit
section
variable {P : Program} {N : Nat} {w0 : World} {V : Mem} {Q : Exit → Frm → List Grp → Prop} {f : Frm} {L : List Grp} {ops : Array Oper} {rest : List Oper} {o : Oper} {d : Nat} {x y : Operand} {v : Value}
variable {ty yt : TypeId} {ps : String} {af : Array Edge} {g : Option (Nat × Bool)}
theorem yieldF_none {N : Nat} {f : Frm} {a : Act} (ha : Rep N f a) {ops : Array Oper} {j : Nat} (h : yieldF ops f j = none) : yielded ops a.tmps j = none := by
  unfold yieldF at h
  unfold yielded
  cases hd : (ops[j]?).bind (·.dst) with
  | none => rfl
  | some d =>
    rw [hd] at h
    simp only at h
    have hg := ha.get d
    simp only [Option.bind_some]
    cases ht : a.tmps[d]? with
    | none => rfl
    | some v =>
      have : f d = v := by rw [← hg]; simp [Array.getD_eq_getD_getElem?, ht]
      rw [this] at h
      cases v <;> first | rfl | (simp at h)
theorem o_guard_un {j : Nat} {b : Bool} {d : Nat} (hg : o.guard = some (j, b)) (hy : yieldF ops f j = none) (hd : o.dst = some d) (hN : Nat.blt d N = true) (h : opsS P N w0 V ops Q rest (upd f d undef) L) : opsS P N w0 V ops Q (o :: rest) f L := by
  intro a w ha hw
  have hy' := yieldF_none ha hy
  unfold wpList
  rw [if_neg (by simp [Region.wanted, hg, hy']), hd]
  exact h _ _ (ha.put hN undef) hw
theorem q_guard_un {j : Nat} {b : Bool} {d : Nat} (hg : o.guard = some (j, b)) (hy : yieldF ops f j = none) (hd : o.dst = some d) (hN : Nat.blt d N = true) (h : quietS P N w0 V L ops Q rest (upd f d undef)) : quietS P N w0 V L ops Q (o :: rest) f := by
  intro a ha
  have hy' := yieldF_none ha hy
  unfold wpQuiet
  rw [if_neg (by simp [Region.wanted, hg, hy']), hd]
  exact h _ (ha.put hN undef)
theorem o_make {t e : TypeId} {i : TypeInfo} {z : Value} {sz bytes n : Nat} {k k' : IntKind} (hN : Nat.blt d N = true) (ht : P.underlying t = some (.slice e)) (hi : P.info? e = some i) (hz : i.zero = some z) (hsz : i.size = sz) (hby : i.bytes = bytes)
    (hx : evF f x = .int k n) (hy : evF f y = .int k' n) (hb : n ≤ 140737488355328 ∧ bytes * n ≤ 140737488355328)
    (h : ∀ A E, OS A n n e sz (madeCells z.cells (n * sz)).toList E → A.isSome = true → opsS P N w0 V ops Q rest (upd f d (.slice A n n)) (L ++ [E])) :
    opsS P N w0 V ops Q (⟨some d, .makeSlice t x y, ty, ps, af, none⟩ :: rest) f L := by
  subst hsz hby
  refine o_effE (d := d) (fun v L' => ∃ A E, v = .slice A n n ∧ L' = L ++ [E] ∧ OS A n n e i.size (madeCells z.cells (n * i.size)).toList E ∧ A.isSome = true) rfl rfl hN (fun w hw => ?_) ?_
  · have hr := run_make w t e i z ht hi hz k k' n n (by omega) (Int.le_refl _) (by omega) (by omega)
    refine ⟨_, _, _, ?_, hw.alloc _, _, _, rfl, rfl, ⟨by simp [size_madeCells], Nat.le_refl _, by unfold maxLen; omega, .inr ⟨w.heap.size, [], [], [], rfl, by simp; rfl, by simp [size_madeCells]⟩⟩, rfl⟩
    simp only [execOp, hx, hy, Sem.run_bind, hr, Result.andThen_ok, Sem.run_pure, Int.toNat_natCast]
    rfl
  · rintro v L' ⟨A, E, rfl, rfl, h1, h2⟩; exact h A E h1 h2
theorem o_makeMap {t : TypeId} (hN : Nat.blt d N = true) (h : ∀ b, opsS P N w0 V ops Q rest (upd f d (.map (some b))) (L ++ [[(b, .map #[] 0)]])) :
    opsS P N w0 V ops Q (⟨some d, .makeMap t none, ty, ps, af, none⟩ :: rest) f L := by
  refine o_effE (d := d) (fun v L' => ∃ b, v = .map (some b) ∧ L' = L ++ [[(b, .map #[] 0)]]) rfl rfl hN (fun w hw => ?_) ?_
  · refine ⟨_, _, _, ?_, hw.alloc _, w.heap.size, rfl, rfl⟩
    simp [execOp, Instr.makeMap]
  · rintro v L' ⟨b, rfl, rfl⟩; exact h b
theorem run_checkKey_bool {kt : TypeId} {e : Bool} (n : Nat) (q : Bool) (w : World) (hk : ∀ w, (underlying kt).run P w = .ok .bool w) : (Instr.checkKey e (n + 1) kt (.bool q)).run P w = .ok () w := by
  unfold Instr.checkKey
  simp only [Sem.run_bind, hk, Result.andThen_ok]
  rfl
theorem o_insert1 {t kt et : TypeId} {m k x : Operand} {b : Nat} {kb : Bool} (j : Nat) (hj : nth L j = some [(b, .map #[] 0)]) (ht : ∀ w, (underlying t).run P w = .ok (.map kt et) w) (hk : ∀ w, (underlying kt).run P w = .ok .bool w) (hm : evF f m = .map (some b)) (hkx : evF f k = .bool kb) (hv : evF f x = v)
    (h : opsS P N w0 V ops Q rest f (setG L j [(b, .map #[⟨.bool kb, v, 0⟩] 1)])) : opsS P N w0 V ops Q (⟨none, .insert t m k x, ty, ps, af, none⟩ :: rest) f L := by
  refine o_skip rfl rfl (fun w hw => ?_) h
  have hb : w.heap[b]? = some (.map #[] 0) := hw.own (b, .map #[] 0) (nth_mem hj _ (by simp))
  have hg : (getObj b).run P w = .ok (.map #[] 0) w := by simp [getObj, Sem.run, hb]
  have hs : (setObj b (.map #[⟨.bool kb, v, 0⟩] 1)).run P w = .ok () { w with heap := w.heap.setIfInBounds b (.map #[⟨.bool kb, v, 0⟩] 1) } := by simp [setObj, Sem.run, hb]
  have hlt : b < w.heap.size := (Array.getElem?_eq_some_iff.1 hb).1
  refine ⟨{ w with heap := w.heap.setIfInBounds b (.map #[⟨.bool kb, v, 0⟩] 1) }, ?_, hw.put hj rfl rfl rfl (by simp) (by simp [hlt]) (fun q hq => by simp [Array.getElem?_setIfInBounds, Ne.symm hq])⟩
  have hck : (Instr.checkKey false 10000 kt (.bool kb)).run P w = .ok () w := run_checkKey_bool 9999 kb w hk
  have hfk : (Instr.findKey kt (.bool kb) []).run P w = .ok none w := by simp [Instr.findKey, hk, Instr.findNow]
  simp [execOp, hm, hkx, hv, Instr.mapUpdate, ht, hg, hck, hfk, hs]
theorem y_lookup1 {t kt et : TypeId} {m k : Operand} {b : Nat} {kb q : Bool} {z : Value} {g : Option (Nat × Bool)} (j : Nat) (hj : nth L j = some [(b, .map #[⟨.bool kb, v, 0⟩] 1)]) (ht : ∀ w, (underlying t).run P w = .ok (.map kt et) w) (hk : ∀ w, (underlying kt).run P w = .ok .bool w) (hz : ∀ w, (zeroValue et).run P w = .ok z w) (hm : evF f m = .map (some b)) (hkx : evF f k = .bool q) :
    Yld P f V L ⟨some d, .lookup t m k false, ty, ps, af, g⟩ (if q = kb then v else z) := fun w0 w hw => by
  have hb : w.heap[b]? = some (.map #[⟨.bool kb, v, 0⟩] 1) := hw.own (b, .map #[⟨.bool kb, v, 0⟩] 1) (nth_mem hj _ (by simp))
  have hg : (getObj b).run P w = .ok (.map #[⟨.bool kb, v, 0⟩] 1) w := by simp [getObj, Sem.run, hb]
  have hck : (Instr.checkKey false 10000 kt (.bool q)).run P w = .ok () w := run_checkKey_bool 9999 q w hk
  have hfk : (Instr.findKey kt (.bool q) [⟨.bool kb, v, 0⟩]).run P w = .ok (if q = kb then some (0, v) else none) w := by
    cases q <;> cases kb <;> simp [Instr.findKey, hk, Instr.findNow, Instr.sameNow]
  cases q <;> cases kb <;> simp_all [execOp, Instr.lookup]
theorem Cels.mem {L : List Grp} {E : Grp} {A : Option Addr} {cs : List Value} (h : Cels V [E] A cs) {j : Nat} (hj : nth L j = some E) : Cels V L A cs :=
  h.mono fun b o hb => by
    rcases hb with hb | hb
    · exact .inl hb
    · exact .inr (nth_mem hj _ (by simpa using hb))
theorem y_neg' {k : IntKind} {a : Int} {t : TypeId} {g : Option (Nat × Bool)} (hx : evF f x = .int k a) : Yld P f V L ⟨some d, .unOp .neg t x, ty, ps, af, g⟩ (.int k (k.wrap (-a))) := fun _ w _ => by
  simp only [execOp, hx, Op.unary, Op.intArith, Int.zero_sub]
  rfl
theorem made_one (v : Value) (n : Nat) : (madeCells #[v] (n * 1)).toList = List.replicate n v := by
  unfold madeCells
  apply List.ext_getElem
  · simp
  · intro i h1 h2
    simp [Nat.mod_one]
theorem os_made_int {A : Option Addr} {n : Nat} {e : TypeId} {k : IntKind} {E : Grp} (h : OS A n n e 1 (madeCells (Value.int k 0).cells (n * 1)).toList E) : OS A n n e 1 ((List.replicate n (0 : Int)).map (.int k)) E := by
  rw [show (Value.int k 0).cells = #[.int k 0] from rfl, made_one] at h
  rwa [List.map_replicate]
end
end Go.Proofs.Ytacmbiohjiogiaa.K
