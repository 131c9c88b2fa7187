/- Zeros appended onto nothing (append of make). No condition. -/
import Derived.Test.YtacmbiohjiogiaaK13
namespace Go.Proofs.Ytacmbiohjiogiaa.K
open Go.RowKit
section
variable {P : Program} {N : Nat} {w0 : World} {V : Mem} {Q : Exit → Frm → List Grp → Prop} {f : Frm} {L : List Grp} {ops : Array Oper} {rest : List Oper} {d : Nat} {v : Value}
variable {ty : TypeId} {ps : String} {af : Array Edge} {x y : Operand}
theorem run_append_zeros {t u ty e : TypeId} {i : TypeInfo} {z : Value} {k : IntKind} (ht : P.underlying t = some (.slice e)) (hi : P.info? e = some i) (hz : i.zero = some z) (hu : P.underlying u = some (.int k))
    {m : Nat} {w : World} (h0 : 0 < m) (hs : 0 < i.size) (h63 : m ≤ maxLen) (hbytes : m * i.bytes ≤ 140737488355328) :
    (Builtin.append_ [t, u].toArray ty [.slice none 0 0, .int .i64 m].toArray).run P w = .ok (.slice (some ⟨w.heap.size, 0, none⟩) m (grownCap w m 0 e)) (w.drew.alloc (.cells ((Builtin.zeroCells z.cells m).toList ++ (Builtin.zeroCells z.cells (grownCap w m 0 e - m)).toList).toArray e)) := by
  have hsmall : m ≤ 9223372036854775807 := by simp only [maxLen] at h63; omega
  have hroom : ¬ (m ≤ 0) := by omega
  have hwr : IntKind.i64.wrap (m : Int) = m := wrap_in (k := .i64) (by simp only [inK]; omega)
  have hneg : ¬ ((m : Int) < 0) := by omega
  have hbig : ¬ ((281474976710656 : Int) < (m : Int) * (i.bytes : Int)) := by
    have : ((m * i.bytes : Nat) : Int) ≤ 140737488355328 := by omega
    rw [Int.natCast_mul] at this
    omega
  have h63' : ¬ (9223372036854775807 < (m : Int)) := by omega
  have hfits := growslice_fits (need := m) (old := 0) (by omega) hbytes
  have h48' : ¬ (281474976710656 < Builtin.nextslicecap m 0 * i.bytes) := by omega
  have hns : ¬ (m = 0 ∨ i.size = 0) := by omega
  simp [Builtin.append_, run_underlying ht, run_underlying hu, sizeOf, typeInfo, zeroValue, hi, hz, asInt, asIntOf, hwr, hneg, hbig, hroom, h63', h48', hns, Question.forced, Builtin.firstCells, newRow, grownCap]
  rw [if_neg (by omega), if_neg (Nat.mul_ne_zero (by omega) (by omega))]
  congr 3
  apply Array.ext'
  simp
theorem o_append_zeros {t u e : TypeId} {i : TypeInfo} {z : Value} {k : IntKind} {sz bytes m : Nat} (hN : Nat.blt d N = true) (ht : P.underlying t = some (.slice e)) (hi : P.info? e = some i) (hz : i.zero = some z) (hzs : z.cells.size = sz) (hsz : i.size = sz) (hby : i.bytes = bytes) (hu : P.underlying u = some (.int k))
    (hx : evF f x = .slice none 0 0) (hy : evF f y = .int .i64 m) (h0 : 0 < m) (hs0 : 0 < sz) (hb : m ≤ 140737488355328 ∧ m * bytes ≤ 140737488355328)
    (h : ∀ A c E, OS A m c e sz (Builtin.zeroCells z.cells m).toList E → opsS P N w0 V ops Q rest (upd f d (.slice A m c)) (L ++ [E])) :
    opsS P N w0 V ops Q (⟨some d, .call { callee := .builtin .append, args := [x, y].toArray, argTypes := [t, u].toArray }, ty, ps, af, none⟩ :: rest) f L := by
  subst hsz hby
  refine o_effE (d := d) (fun v L' => ∃ A c E, v = .slice A m c ∧ L' = L ++ [E] ∧ OS A m c e i.size (Builtin.zeroCells z.cells m).toList E) rfl rfl hN (fun w hw => ?_) ?_
  · have hr := run_append_zeros (ty := ty) (w := w) ht hi hz hu h0 hs0 (by unfold maxLen; omega) hb.2
    have hge := grownCap_ge w m 0 e
    have hcm : grownCap w m 0 e ≤ maxLen := grownCap_le_maxLen w m 0 e (by unfold maxLen; omega)
    have hwd : SH w0 V w.drew L := hw.drawn _
    refine ⟨.slice (some ⟨w.heap.size, 0, none⟩) m (grownCap w m 0 e), w.drew.alloc (.cells ((Builtin.zeroCells z.cells m).toList ++ (Builtin.zeroCells z.cells (grownCap w m 0 e - m)).toList).toArray e (0, 0)), _, ?_, hwd.alloc (.cells ((Builtin.zeroCells z.cells m).toList ++ (Builtin.zeroCells z.cells (grownCap w m 0 e - m)).toList).toArray e (0, 0)), _, _, _, rfl, rfl, ?_⟩
    · simp only [execOp, resolve, Sem.run_bind, Sem.run_pure, Result.andThen_ok, invoke, builtin, List.map_toArray, List.map_cons, List.map_nil, hx, hy, hr]
    · refine ⟨by simp [size_zeroCells, hzs], hge, hcm, .inr ⟨w.drew.heap.size, [], (Builtin.zeroCells z.cells (grownCap w m 0 e - m)).toList, [], rfl, by simp, ?_⟩⟩
      simp only [Array.length_toList, size_zeroCells, hzs, ← Nat.add_mul]
      congr 1
      omega
  · rintro v L' ⟨A, c, E, rfl, rfl, h1⟩; exact h A c E h1
theorem OS.trunc {A : Option Addr} {n cap : Nat} {T : TypeId} {sz : Nat} {cs : List Value} {E : Grp} (h : OS A n cap T sz cs E) : OS A 0 cap T sz [] E := by
  obtain ⟨h1, h2, h3, h4⟩ := h
  refine ⟨by simp, Nat.zero_le _, h3, ?_⟩
  rcases h4 with ⟨rfl, rfl, rfl⟩ | ⟨r, pre, sp, post, rfl, rfl, hl⟩
  · exact .inl ⟨rfl, rfl, rfl⟩
  · exact .inr ⟨r, pre, cs ++ sp, post, rfl, by simp, by simp [hl]⟩
end
end Go.Proofs.Ytacmbiohjiogiaa.K
