/- The rules that the printed walks use: tests that part a walk, calls, what is pulled to the front. No condition. -/
import Derived.Test.YtacmbiohjiogiaaK3
namespace Go.Proofs.Ytacmbiohjiogiaa.K
open Go.RowKit

/-- The state of a loop that counts and lets one slice grow. -/
structure G1 where
 i : Nat
 A : Option Addr
 n : Nat
 c : Nat
 E : Grp
/-- The same of two slices. -/
structure G2 where
 i : Nat
 A : Option Addr
 n : Nat
 c : Nat
 E : Grp
 B : Option Addr
 m : Nat
 e : Nat
 F : Grp

section
variable {P : Program} {N : Nat} {w0 : World} {V : Mem} {Q : Exit → Frm → List Grp → Prop} {f : Frm} {L : List Grp} {ops : Array Oper} {rest : List Oper} {o : Oper} {d : Nat} {x y : Operand} {v : Value}
variable {ty : TypeId} {ps : String} {af : Array Edge} {g : Option (Nat × Bool)}

theorem o_split {p : Prop} [Decidable p] (hg : o.guard = none) (hd : o.dst = some d) (hN : Nat.blt d N = true) (hy : Yld P f V L o (.bool (decide p))) (ht : p → opsS P N w0 V ops Q rest (upd f d (.bool true)) L) (hf : ¬ p → opsS P N w0 V ops Q rest (upd f d (.bool false)) L) : opsS P N w0 V ops Q (o :: rest) f L := by
 by_cases hp : p
 ·exact o_val hg hd hN (hy.tt hp) (ht hp)
 ·exact o_val hg hd hN (hy.ff hp) (hf hp)
theorem o_splitb {b : Bool} (hg : o.guard = none) (hd : o.dst = some d) (hN : Nat.blt d N = true) (hy : Yld P f V L o (.bool b)) (ht : b = true → opsS P N w0 V ops Q rest (upd f d (.bool true)) L) (hf : b = false → opsS P N w0 V ops Q rest (upd f d (.bool false)) L) : opsS P N w0 V ops Q (o :: rest) f L := by
 cases b with
 | true => exact o_val hg hd hN hy (ht rfl)
 | false => exact o_val hg hd hN hy (hf rfl)
theorem q_split {p : Prop} [Decidable p] (hg : o.guard = none) (hd : o.dst = some d) (hN : Nat.blt d N = true) (hy : Yld P f V L o (.bool (decide p))) (ht : p → quietS P N w0 V L ops Q rest (upd f d (.bool true))) (hf : ¬ p → quietS P N w0 V L ops Q rest (upd f d (.bool false))) : quietS P N w0 V L ops Q (o :: rest) f := by
 by_cases hp : p
 ·exact q_val hg hd hN (hy.tt hp) (ht hp)
 ·exact q_val hg hd hN (hy.ff hp) (hf hp)
/-- The j-th group comes to the front. -/
def pull (j : Nat) (L : List Grp) : List Grp :=
 match L, j with
 | [], _ => []
 | x :: l, 0 => x :: l
 | x :: l, n + 1 => match pull n l with
  | [] => [x]
  | y :: r => y :: x :: r
theorem pull_perm : ∀ (j : Nat) (L : List Grp), L.flatten.Perm (pull j L).flatten
 | _, [] => by simp [pull]
 | 0, x :: l => by simp [pull]
 | n + 1, x :: l => by
  have ih := pull_perm n l; simp only [pull]
  cases hp : pull n l with
  | nil =>
   rw [hp] at ih; simp only [List.flatten_cons, List.flatten_nil]; exact List.Perm.append_left x (by simpa using ih)
  | cons y r =>
   rw [hp] at ih; simp only [List.flatten_cons] at ih ⊢; refine (List.Perm.append_left x ih).trans ?_; rw [← List.append_assoc, ← List.append_assoc]; exact List.Perm.append_right _ List.perm_append_comm
/-- Some groups, by their places (each place counted in what is left). -/
def picks : List Nat → List Grp → List Grp
 | [], _ => []
 | j :: js, L => match pull j L with
  | [] => []
  | x :: r => x :: picks js r
theorem sub_picks' : ∀ (js : List Nat) (A L : List Grp), Sub (A ++ picks js L) (A ++ L)
 | [], A, L => by simp only [picks, List.append_nil]; exact sub_front ⟨L, rfl⟩
 | j :: js, A, L => by
  intro w0 V w h; have h1 : SH w0 V w (A ++ pull j L) := h.perm (by
   rw [List.flatten_append, List.flatten_append]; exact List.Perm.append_left _ (pull_perm j L))
  simp only [picks]
  cases hp : pull j L with
  | nil => exact h.sublist (by simp)
  | cons x r =>
   rw [hp] at h1; have h2 : SH w0 V w ((A ++ [x]) ++ r) := by simpa using h1
   have := sub_picks' js (A ++ [x]) r w0 V w h2
   simpa using this
theorem sub_picks (js : List Nat) {L L' : List Grp} (h : picks js L = L') : Sub L' L := h ▸ sub_picks' js [] L
theorem o_pull (j : Nat) (h : opsS P N w0 V ops Q rest f (pull j L)) : opsS P N w0 V ops Q rest f L :=
 o_sub _ (fun _ hw => hw.perm (pull_perm j L)) h
theorem sub_flatten {L L' : List Grp} (h : L'.Sublist L) : L'.flatten.Sublist L.flatten := by
 induction h with
 | slnil => exact List.Sublist.refl _
 | cons a _ ih => exact ih.trans (List.sublist_append_right _ _)
 | cons_cons a _ ih => exact List.Sublist.append_left ih a
theorem run_call {fid : FuncId} {ts : Array TypeId} {xs : List Operand} {vs : List Value} (hc : ∀ args w, (callFunc fid args).run P w = .ok (.enter fid args) w) (hx : xs.map (evF f) = vs) (w : World) :
  (execOp (evF f) ⟨some d, .call { callee := .value (.func fid), args := xs.toArray, argTypes := ts }, ty, ps, af, g⟩).run P w = .ok (.enter fid vs.toArray) w := by
 have e : xs.toArray.map (evF f) = vs.toArray := by rw [List.map_toArray, hx]
 simp only [execOp, resolve, e, evF, Deferred.ofValue, Sem.run_bind, Sem.run_pure, Result.andThen_ok, invoke]; simp [hc]
theorem run_callv {fid : FuncId} {ts : Array TypeId} {xs : List Operand} {vs cap : List Value} (hc : ∀ args w, (callFunc fid args).run P w = .ok (.enter fid args) w) (hf : evF f x = .func (.func fid) #[] cap.toArray) (hx : xs.map (evF f) = vs) (w : World) :
  (execOp (evF f) ⟨some d, .call { callee := .value x, args := xs.toArray, argTypes := ts }, ty, ps, af, g⟩).run P w = .ok (.enter fid (vs ++ cap).toArray) w := by
 have e : xs.toArray.map (evF f) = vs.toArray := by rw [List.map_toArray, hx]
 simp only [execOp, resolve, e, hf, Deferred.ofValue, Sem.run_bind, Sem.run_pure, Result.andThen_ok, invoke]; simp [hc]
/-- A call of a named function: the first 'n' groups are handed over, the rest is only read. -/
theorem o_fn (n : Nat) {fid : FuncId} {ts : Array TypeId} {xs : List Operand} {vs : List Value} {post : Value → List Grp → Prop} (hN : Nat.blt d N = true) (hc : ∀ args w, (callFunc fid args).run P w = .ok (.enter fid args) w)
  (hcon : CallS P fid vs.toArray (ext V (L.drop n)) (L.take n) post) (hx : xs.map (evF f) = vs) (h : ∀ v L1, post v L1 → opsS P N w0 V ops Q rest (upd f d v) (L1 ++ L.drop n)) :
  opsS P N w0 V ops Q (⟨some d, .call { callee := .value (.func fid), args := xs.toArray, argTypes := ts }, ty, ps, af, none⟩ :: rest) f L := by
 refine o_call (d := d) rfl rfl hN (run_call hc hx) (hcon.frame (L := L) (by rw [List.take_append_drop])) ?_; rintro v L' ⟨L1, hp, rfl⟩; exact h v L1 hp
theorem o_fnv (n : Nat) {fid : FuncId} {ts : Array TypeId} {xs : List Operand} {vs cap : List Value} {post : Value → List Grp → Prop} (hN : Nat.blt d N = true) (hc : ∀ args w, (callFunc fid args).run P w = .ok (.enter fid args) w)
  (hcon : CallS P fid (vs ++ cap).toArray (ext V (L.drop n)) (L.take n) post) (hf : evF f x = .func (.func fid) #[] cap.toArray) (hx : xs.map (evF f) = vs) (h : ∀ v L1, post v L1 → opsS P N w0 V ops Q rest (upd f d v) (L1 ++ L.drop n)) :
  opsS P N w0 V ops Q (⟨some d, .call { callee := .value x, args := xs.toArray, argTypes := ts }, ty, ps, af, none⟩ :: rest) f L := by
 refine o_call (d := d) rfl rfl hN (run_callv hc hf hx) (hcon.frame (L := L) (by rw [List.take_append_drop])) ?_; rintro v L' ⟨L1, hp, rfl⟩; exact h v L1 hp

theorem s_group {c : Code} (h : wpS P N w0 V c Q f (L ++ [[]])) : wpS P N w0 V c Q f L :=
 s_sub _ (fun _ hw => hw.perm (by simp)) h
theorem o_newgroup (h : opsS P N w0 V ops Q rest f (L ++ [[]])) : opsS P N w0 V ops Q rest f L :=
 o_sub _ (fun _ hw => hw.perm (by simp)) h
/-! ### bytes as a string -/
/-! ### what is appended -/
theorem one_int (k : IntKind) (bs : List Int) : ∀ c ∈ bs.map (Value.int k), c.oneCell' = true := by
 intro c hc; obtain ⟨b, _, rfl⟩ := List.mem_map.1 hc; rfl
theorem Cels.none_nil {cs : List Value} (h : Cels V L none cs) : cs = [] := by
 cases cs with
 | nil => rfl
 | cons a l => have := h.isSome (i := 0) (by simp); cases this
theorem Src.rd {sz : Nat} {u e : TypeId} {A : Option Addr} {m c : Nat} {news : List Value} (hu : P.underlying u = some (.slice e)) (hc : Cels V L A news) (hl : news.length = m * (sz + 1)) (h1 : ∀ c ∈ news, c.oneCell' = true) : Src P V L (sz + 1) u (.slice A m c) m news :=
 Src.slice hu hc hl h1 fun hA => by
  subst hA; have := hc.none_nil; subst this; simp [Nat.mul_add] at hl; omega
theorem Src.own {j sz : Nat} {u e T : TypeId} {A : Option Addr} {m c : Nat} {news : List Value} {E : Grp} (hu : P.underlying u = some (.slice e)) (hj : nth L j = some E) (hos : OS A m c T (sz + 1) news E) (h1 : ∀ c ∈ news, c.oneCell' = true) : Src P V L (sz + 1) u (.slice A m c) m news :=
 Src.rd hu (hos.cels hj) hos.len h1

theorem eqGuard_agg {op : BinOp} {t : TypeId} {xs ys : Array Value} (h : P.eqGuardType P.depth t = false) (w : World) : (eqGuard op t x y (.agg xs) (.agg ys)).run P w = .ok () w := run_eqGuard_agg w op t x y xs ys h
/-! ### elements -/
theorem Cels.cel' {A : Option Addr} {cs : List Value} {k : Nat} (h : Cels V L (idx A k) cs) {i : Nat} {c : Value} (hi : nth cs i = some c) : Cel V L (idx A (k + i)) c := by
 rw [nth_eq] at hi; have := h.cel hi
 rwa [idx_idx] at this
theorem y_index1 {t E : TypeId} {k : IntKind} {A : Option Addr} {n c : Nat} {i : Int} (ht : ∀ w, (underlying t).run P w = .ok (.slice E) w) (hz : ∀ w, (sizeOf E).run P w = .ok 1 w) (hA : A.isSome = true) (hx : evF f x = .slice A n c) (hy : evF f y = .int k i) (h : 0 ≤ i ∧ i < n) :
  Yld P f V L ⟨some d, .indexAddr t x y, ty, ps, af, g⟩ (.pointer (idx A i.toNat)) := (y_indexAddr ht hz hA hx hy h).of_eq (by rw [Nat.mul_one])
theorem y_fieldX {s i F k : TypeId} {fs : Array Field} {fd : Field} {A : Option Addr} {n : Nat} (hs : ∀ w, (underlying s).run P w = .ok (.struct fs) w) (hf : fs[i]? = some fd) (hz : ∀ w, (sizeOf fd.type).run P w = .ok (n + 1) w) (hF : fd.offset = F)
  (hA : A.isSome = true) (hx : evF f x = .pointer (idx A k)) : Yld P f V L ⟨some d, .fieldAddr s x i, ty, ps, af, g⟩ (.pointer (idx A (k + F))) :=
 (y_fieldAddr hs hf hz hF (by cases A <;> simp_all [idx]) hx).of_eq (by rw [idx_idx])
theorem cel_int {A : Option Addr} {k : IntKind} {bs : List Int} (h : Cels V L A (bs.map (.int k))) {i : Nat} (hi : i < bs.length) : Cel V L (idx A i) (.int k (bs.getD i 0)) :=
 h.cel (by simp [hi])
theorem some_int {A : Option Addr} {k : IntKind} {bs : List Int} (h : Cels V L A (bs.map (.int k))) {i : Nat} (hi : i < bs.length) : A.isSome = true := h.isSome (i := i) (by simpa using hi)
theorem os_lay_int {A : Option Addr} {n c : Nat} {T : TypeId} {k : IntKind} {bs : List Int} {i : Nat} {z : Int} {E : Grp} (h : OS A n c T 1 (lay (bs.map (.int k)) i [.int k z]) E) (hi : i < bs.length) : OS A n c T 1 ((bs.set i z).map (.int k)) E := by
 rw [lay_one _ _ _ (by simpa using hi)] at h
 rwa [List.map_set]
/-- Elements of several cells each. -/
theorem flat_len {α : Type} {enc : α → List Value} {sz : Nat} (hsz : ∀ x, (enc x).length = sz) : ∀ xs : List α, (xs.flatMap enc).length = xs.length * sz
 | [] => by simp
 | x :: xs => by rw [List.flatMap_cons, List.length_append, hsz, flat_len hsz xs, List.length_cons, Nat.add_mul]; omega
theorem flat_at {α : Type} [Inhabited α] {enc : α → List Value} {sz : Nat} (hsz : ∀ x, (enc x).length = sz) : ∀ (xs : List α) (i j : Nat), i < xs.length → j < sz → (xs.flatMap enc)[i * sz + j]? = (enc (xs.getD i default))[j]?
 | [], _, _, h, _ => by simp at h
 | x :: xs, 0, j, _, hj => by
  rw [List.flatMap_cons, List.getElem?_append_left (by rw [hsz]; omega)]; simp
 | x :: xs, i + 1, j, h, hj => by
  rw [List.flatMap_cons, List.getElem?_append_right (by rw [hsz, Nat.add_mul]; omega), hsz, show (i + 1) * sz + j - sz = i * sz + j by rw [Nat.add_mul]; omega, flat_at hsz xs i j (by simpa using h) hj]; simp
theorem cels_at {α : Type} [Inhabited α] {enc : α → List Value} {sz : Nat} (hsz : ∀ x, (enc x).length = sz) {A : Option Addr} {xs : List α} (h : Cels V L A (xs.flatMap enc)) {i : Nat} (hi : i < xs.length) : Cels V L (idx A (i * sz)) (enc (xs.getD i default)) :=
 h.sub _ fun j c hj => by
  rw [flat_at hsz xs i j hi (by rw [← hsz (xs.getD i default)]; exact (List.getElem?_eq_some_iff.1 hj).1)]; exact hj
theorem some_at {α : Type} {enc : α → List Value} {sz : Nat} (hsz : ∀ x, (enc x).length = sz + 1) {A : Option Addr} {xs : List α} (h : Cels V L A (xs.flatMap enc)) {i : Nat} (hi : i < xs.length) : A.isSome = true := by
 refine h.isSome (i := i) ?_; rw [flat_len hsz, Nat.mul_add]; omega

/-- A slice literal: a new block. -/
theorem o_lit {t e n : Nat} {xs : List (Nat × Operand)} {vs : List (Nat × Value)} {l : List Value} (hN : Nat.blt d N = true) (hx : xs.map (fun p => (p.1, evF f p.2)) = vs)
  (hr : ∀ w, (Instr.buildSlice t n vs.toArray).run P w = .ok (.slice (some ⟨w.heap.size, 0, none⟩) n n) { w with heap := w.heap.push (.cells l.toArray e (0, 0)) })
  (h : ∀ b, opsS P N w0 V ops Q rest (upd f d (.slice (some ⟨b, 0, none⟩) n n)) (L ++ [[(b, .cells l.toArray e (0, 0))]])) : opsS P N w0 V ops Q (⟨some d, .buildSlice t n xs.toArray, ty, ps, af, none⟩ :: rest) f L := by
 refine o_effE (d := d) (fun v L' => ∃ b, v = .slice (some ⟨b, 0, none⟩) n n ∧ L' = L ++ [[(b, .cells l.toArray e (0, 0))]]) rfl rfl hN (fun w hw => ?_) ?_
 ·refine ⟨_, _, _, ?_, hw.alloc _, w.heap.size, rfl, rfl⟩; have e1 : xs.toArray.map (fun x : Nat × Operand => (x.1, evF f x.2)) = vs.toArray := by rw [List.map_toArray, hx]
  have e2 : (xs.toArray.map fun (i, x) => (i, evF f x)) = vs.toArray := e1; simp only [execOp, e2, Sem.run_bind, hr, Result.andThen_ok, Sem.run_pure]
 ·rintro v L' ⟨b, rfl, rfl⟩; exact h b
/-- A struct put together. -/
theorem y_build {t : Nat} {xs : List (Nat × Operand)} {vs : List (Nat × Value)} (hx : xs.map (fun p => (p.1, evF f p.2)) = vs) (hr : ∀ w, (Instr.build t vs.toArray).run P w = .ok v w) : Yld P f V L ⟨some d, .build t xs.toArray, ty, ps, af, g⟩ v := fun _ w _ => by
 have e1 : xs.toArray.map (fun x : Nat × Operand => (x.1, evF f x.2)) = vs.toArray := by rw [List.map_toArray, hx]
 have e2 : (xs.toArray.map fun (i, x) => (i, evF f x)) = vs.toArray := e1; simp only [execOp, e2, Sem.run_bind, hr, Result.andThen_ok, Sem.run_pure]
/-- A literal's block as a slice of the call's own. -/
theorem OS.lit {b : Nat} {T : TypeId} {sz n : Nat} {l : List Value} (h : l.length = n * sz) (hm : n ≤ maxLen) : OS (some ⟨b, 0, none⟩) n n T sz l [(b, .cells l.toArray T (0, 0))] :=
 ⟨h, Nat.le_refl _, hm, .inr ⟨b, [], [], [], rfl, by simp, by simp [h]⟩⟩
end
end Go.Proofs.Ytacmbiohjiogiaa.K
