/- Copies into a slice of the call's own. No condition. -/
import Derived.Test.YtacmbiohjiogiaaK12
namespace Go.Proofs.Ytacmbiohjiogiaa.K
open Go.RowKit
section
variable {P : Program} {N : Nat} {w0 : World} {V : Mem} {Q : Exit → Frm → List Grp → Prop} {f : Frm} {L : List Grp} {ops : Array Oper} {rest : List Oper} {d : Nat} {v : Value}
variable {ty : TypeId} {ps : String} {af : Array Edge} {x y : Operand}
theorem o_fuse {G H : Grp} {R : List Grp} (h : opsS P N w0 V ops Q rest f ((G ++ H) :: R)) : opsS P N w0 V ops Q rest f (G :: H :: R) :=
  o_sub _ (fun _ hw => hw.sublist (by simp)) h
theorem s_fuse {c : Code} {G H : Grp} {R : List Grp} (h : wpS P N w0 V c Q f ((G ++ H) :: R)) : wpS P N w0 V c Q f (G :: H :: R) :=
  s_sub _ (fun _ hw => hw.sublist (by simp)) h
theorem cels_off {A : Option Addr} {cs ds : List Value} {q k : Nat} (h : Cels V L (idx A q) cs) (e : (cs.drop k).take ds.length = ds) : Cels V L (idx A (q + k)) ds := by
  have := h.part k ds.length
  rw [e, idx_idx] at this
  exact this
theorem lay_nil (l : List Value) (k : Nat) : lay l k [] = l := by simp [lay]
theorem run_copy_os {t u e : TypeId} {i : TypeInfo} (ht : P.underlying t = some (.slice e)) (hi : P.info? e = some i) {A B : Option Addr} {n c k m ec p pc : Nat} {cs ds : List Value} {E : Grp} {j : Nat} (hj : nth L j = some E) (hos : OS A n c e i.size cs E)
    (hc : Cels V L B ds) (hds : min p m * i.size ≤ ds.length) (h1 : ∀ u ∈ ds, u.oneCell' = true) (hk : k + min p m ≤ n) {w : World} (hw : SH w0 V w L) :
    ∃ w' E', (Builtin.copy_ [t, u].toArray ty [.slice (cutA A c k i.size) m ec, .slice B p pc].toArray).run P w = .ok (.int .i64 (min p m : Nat)) w' ∧ SH w0 V w' (setG L j E') ∧ OS A n c e i.size (lay cs (k * i.size) (ds.take (min p m * i.size))) E' := by
  have hfc : (Builtin.firstCells i.size (min p m) (.slice B p pc)).run P w = .ok (ds.take (min p m * i.size)).toArray w := by
    cases B with
    | none =>
      have h0 := hc.none_nil
      subst h0
      have hz : min p m * i.size = 0 := by simpa using hds
      simp only [List.take_nil]
      cases hb : min p m with
      | zero => rfl
      | succ q => rfl
    | some a =>
      have hl : (ds.take (min p m * i.size)).length = min p m * i.size := by rw [List.length_take]; omega
      show (loadCells a (min p m * i.size)).run P w = _
      have hr := run_loadCells_list (P := P) (w := w) a (ds.take (min p m * i.size)) (fun q v hq => by
        rw [List.getElem?_take] at hq
        split at hq
        · exact (hc q v hq).cell hw
        · cases hq)
      rw [hl] at hr
      exact hr
  have hone : ∀ u ∈ ds.take (min p m * i.size), u.oneCell' = true := fun u hu => h1 u (List.mem_of_mem_take hu)
  have hlen : (ds.take (min p m * i.size)).length = min p m * i.size := by rw [List.length_take]; omega
  generalize hq : ds.take (min p m * i.size) = news at *
  obtain ⟨e1, e2, e3, e4⟩ := hos
  have hu : (underlying t).run P w = .ok (.slice e) w := run_underlying ht w
  have hlo : (Builtin.lenOf (.slice B p pc)).run P w = .ok p w := rfl
  have hsz : (sizeOf e).run P w = .ok i.size w := by simp [sizeOf, typeInfo, hi]
  have same : news = [] → setG L j E = L := fun _ => by
    obtain ⟨pq, qq, h1, h2⟩ := setG_split hj
    rw [h2 E, ← h1]
  rcases e4 with ⟨rfl, rfl, rfl⟩ | ⟨r, pre, sp, post, rfl, rfl, hl⟩
  · have hq0 : min p m = 0 := by omega
    have hn0 : news = [] := List.eq_nil_of_length_eq_zero (by rw [hlen, hq0]; simp)
    have hcut : cutA none 0 k i.size = none := by unfold cutA; split <;> rfl
    subst hn0
    refine ⟨w, [], ?_, by rw [same rfl]; exact hw, by rw [lay_nil]; exact ⟨e1, e2, e3, .inl ⟨rfl, rfl, rfl⟩⟩⟩
    simp only [Builtin.copy_, List.getElem?_toArray, List.getElem?_cons_zero, List.getElem?_cons_succ, hcut, Sem.run_bind, hu, hlo, hsz, Result.andThen_ok, show Nat.min p m = min p m from rfl, hfc, Sem.run_pure]
    rfl
  · by_cases hck : c = k
    · have hq0 : min p m = 0 := by omega
      have hn0 : news = [] := List.eq_nil_of_length_eq_zero (by rw [hlen, hq0]; simp)
      have hcut : cutA (some ⟨r, pre.length, none⟩) c k i.size = some ⟨r, pre.length, none⟩ := by unfold cutA; rw [if_pos hck]
      subst hn0
      refine ⟨w, _, ?_, by rw [same rfl]; exact hw, by rw [lay_nil]; exact ⟨e1, e2, e3, .inr ⟨r, pre, sp, post, rfl, rfl, hl⟩⟩⟩
      simp only [Builtin.copy_, List.getElem?_toArray, List.getElem?_cons_zero, List.getElem?_cons_succ, hcut, Sem.run_bind, hu, hlo, hsz, Result.andThen_ok, show Nat.min p m = min p m from rfl, hfc, Sem.run_pure, storeCells]
      rfl
    · have hcut : cutA (some ⟨r, pre.length, none⟩) c k i.size = some ⟨r, pre.length + k * i.size, none⟩ := by unfold cutA; rw [if_neg hck, idx_some]
      have hb : w.heap[r]? = some (.cells (pre ++ cs ++ sp ++ post).toArray e (0, 0)) := hw.own (r, .cells (pre ++ cs ++ sp ++ post).toArray e (0, 0)) (nth_mem hj _ (by simp))
      have hfit : k * i.size + news.length ≤ cs.length := by rw [hlen, e1, ← Nat.add_mul]; exact Nat.mul_le_mul_right _ hk
      have hst := run_storeCells_at P r (pre.length + k * i.size) e news 0 (pre ++ cs ++ sp ++ post).toArray w hb (by simp; omega) hone
      have hla : lay (pre ++ cs ++ sp ++ post) (pre.length + k * i.size) news = pre ++ lay cs (k * i.size) news ++ sp ++ post := by
        rw [List.append_assoc (pre ++ cs), lay_append _ _ _ _ _ hfit]; simp
      refine ⟨_, _, ?_, setRow_put (l' := pre ++ lay cs (k * i.size) news ++ sp ++ post) hw hj, ?_⟩
      · simp only [Builtin.copy_, List.getElem?_toArray, List.getElem?_cons_zero, List.getElem?_cons_succ, hcut, Sem.run_bind, hu, hlo, hsz, Result.andThen_ok, show Nat.min p m = min p m from rfl, hfc, Sem.run_pure]
        rw [hst]
        simp only [Result.andThen_ok, goInt]
        rw [← hla]
        simp [lay]
      · have hll := lay_length cs (k * i.size) news hfit
        exact ⟨by rw [hll]; exact e1, e2, e3, .inr ⟨r, pre, sp, post, rfl, rfl, by rw [hll]; exact hl⟩⟩
theorem o_copy_os {t u e : TypeId} {i : TypeInfo} {sz : Nat} (j : Nat) (hN : Nat.blt d N = true) (ht : P.underlying t = some (.slice e)) (hi : P.info? e = some i) (hsz : i.size = sz) {A B : Option Addr} {n c k m ec p pc : Nat} {cs ds : List Value} {E : Grp} (hj : nth L j = some E) (hos : OS A n c e sz cs E)
    (hx : evF f x = .slice (cutA A c k sz) m ec) (hy : evF f y = .slice B p pc) (hc : Cels V L B ds) (hds : min p m * sz ≤ ds.length) (h1 : ∀ u ∈ ds, u.oneCell' = true) (hk : k + min p m ≤ n)
    (h : ∀ E', OS A n c e sz (lay cs (k * sz) (ds.take (min p m * sz))) E' → opsS P N w0 V ops Q rest (upd f d (.int .i64 (min p m : Nat))) (setG L j E')) :
    opsS P N w0 V ops Q (⟨some d, .call { callee := .builtin .copy, args := [x, y].toArray, argTypes := [t, u].toArray }, ty, ps, af, none⟩ :: rest) f L := by
  subst hsz
  refine o_effE (d := d) (fun v L' => ∃ E', v = .int .i64 (min p m : Nat) ∧ L' = setG L j E' ∧ OS A n c e i.size (lay cs (k * i.size) (ds.take (min p m * i.size))) E') rfl rfl hN (fun w hw => ?_) ?_
  · obtain ⟨w', E', h2, h3, h4⟩ := run_copy_os (ty := ty) (u := u) (ec := ec) (pc := pc) ht hi hj hos hc hds h1 hk hw
    refine ⟨_, w', _, ?_, h3, E', rfl, rfl, h4⟩
    simp only [execOp, resolve, Sem.run_bind, Sem.run_pure, Result.andThen_ok, invoke, builtin, List.map_toArray, List.map_cons, List.map_nil, hx, hy, h2]
  · rintro v L' ⟨E', rfl, rfl, h4⟩
    exact h E' h4
end
end Go.Proofs.Ytacmbiohjiogiaa.K
