/- Walks: kinds compared, one field at a time. No condition beyond what each statement names. -/
import Derived.Test.YtacmbiohjiogiaaProg
import Derived.Test.YtacmbiohjiogiaaK17
import Derived.Test.YtacmbiohjiogiaaM1
import Derived.Test.YtacmbiohjiogiaaW1
import Derived.Test.YtacmbiohjiogiaaW2
import Derived.Test.YtacmbiohjiogiaaW3
import Derived.Test.YtacmbiohjiogiaaW4
import Derived.Test.YtacmbiohjiogiaaW7
import Derived.Test.YtacmbiohjiogiaaX1
import Derived.Test.YtacmbiohjiogiaaX2
import Derived.Test.YtacmbiohjiogiaaX3
import Derived.Test.YtacmbiohjiogiaaX4
set_option linter.unusedVariables false
set_option linter.unusedSimpArgs false
set_option maxRecDepth 100000
namespace Go.Proofs.Ytacmbiohjiogiaa.K
open Go.RowKit

theorem y_fieldv {P : Program} {V : Mem} {L : List Grp} {f : Frm} {x : Operand} {d : Option Tmp} {ty : TypeId} {ps : String} {af : Array Edge} {g : Option (Nat × Bool)} {s i : TypeId} {fs : Array Field} {fd : Field} {vs : Array Value} {v : Value} (hx : evF f x = .agg vs) (hs : ∀ w, (underlying s).run P w = .ok (.struct fs) w) (hf : fs[i]? = some fd) (ht : ∀ w, (isAgg fd.type).run P w = .ok false w) (hv : vs[fd.offset]? = some v) :
  Yld P f V L ⟨d, .field s x i, ty, ps, af, g⟩ v := fun _ w _ => by
 simp only [execOp, hx, Instr.field, Sem.run_bind, hs, Result.andThen_ok, hf, asAgg, Sem.run_pure, part, ht, Bool.false_eq_true, if_false, hv]
theorem y_lit_z {P : Program} {V : Mem} {L : List Grp} {f : Frm} {x y : Operand} {d : Nat} {ty : TypeId} {ps : String} {af : Array Edge} {g : Option (Nat × Bool)} {t E : TypeId} {k : IntKind} {b n c q z : Nat} {i : Int} (ht : ∀ w, (underlying t).run P w = .ok (.slice E) w) (hz : ∀ w, (sizeOf E).run P w = .ok z w) (hx : evF f x = .slice (some ⟨b, 0, none⟩) n c) (hy : evF f y = .int k i) (h : (Nat.blt i.toNat n && decide (0 ≤ i)) = true) (hq : i.toNat * z = q) :
  Yld P f V L ⟨some d, .indexAddr t x y, ty, ps, af, g⟩ (.pointer (some ⟨b, q, none⟩)) :=
 (y_indexAddr ht hz rfl hx hy (by simp [Nat.blt_eq] at h; omega)).of_eq (by rw [hq]; simp [idx, Addr.add, eq_comm])
/-- The components of a valid item are those of kinds. -/
theorem held_find {ks : List KR} {cs : List CR} (h : heldP ks cs) {k : Int} {c : CR} (hc : findC cs k = some c) : c.kind = k ∧ 0 ≤ k ∧ k < ks.length ∧ holdsV (ks.getD k.toNat default) c.vs := by
 have h1 : c.kind = k := by simpa using List.find?_some hc
 obtain ⟨j, hj, rfl⟩ := List.mem_iff_getElem.1 (List.mem_of_find?_eq_some hc); have h2 := h j hj; have h3 := lastC_ge (g := j) fun i hi => h i (by omega); rw [List.getD_eq_getElem?_getD, List.getElem?_eq_getElem hj, Option.getD_some] at h2; unfold goodC at h2; rw [h1] at h2; exact ⟨h1, by omega, h2.2.1, h2.2.2⟩
theorem kd_len {ks ks' : List KR} (h : ks.map KR.d = ks'.map KR.d) (k : Nat) : (ks.getD k default).fs = (ks'.getD k default).fs := by
 have h1 : (ks.map KR.d)[k]? = (ks'.map KR.d)[k]? := by rw [h]
 simp only [List.getElem?_map] at h1; simp only [List.getD_eq_getElem?_getD]
 cases h2 : ks[k]? <;> cases h3 : ks'[k]? <;> rw [h2, h3] at h1 <;> simp at h1 <;> simp
 exact congrArg Prod.snd h1
theorem sameLen_of {k1 k2 k3 : List KR} (e2 : k1.map KR.d = k2.map KR.d) (e3 : k1.map KR.d = k3.map KR.d) {o x y : List CR} (ho : heldP k1 o) (hx : heldP k2 x) (hy : heldP k3 y) : sameLen o x y := fun k a b c ha hb hc => by
 have h1 := holds_fits (held_find ho ha).2.2.2; have h2 := holds_fits (held_find hx hb).2.2.2; have h3 := holds_fits (held_find hy hc).2.2.2; have e4 := congrArg List.length (kd_len e2 k.toNat); have e5 := congrArg List.length (kd_len e3 k.toNat); have h8 := (oneErr_zero h2.1).2.1; have l1 := h1.2.1; have l2 := h2.2.1; have l3 := h3.2.1; omega
theorem find_held {ks : List KR} {gs : List Int} {its : List IR} (h : itemsP ks gs its) {n : Int} {i : IR} (hi : findI its n = some i) : i.e = n ∧ 0 ≤ n ∧ n < gs.length ∧ i.g = gs.getD n.toNat 0 ∧ i.g ≠ 1073741824 ∧ heldP ks i.cs := by
 have h1 : i.e = n := by simpa using List.find?_some hi
 obtain ⟨j, hj, rfl⟩ := List.mem_iff_getElem.1 (List.mem_of_find?_eq_some hi); have h2 := h j hj; have h3 := lastI_ge (g := j) fun i hi => h i (by omega); rw [List.getD_eq_getElem?_getD, List.getElem?_eq_getElem hj, Option.getD_some] at h2; unfold goodI at h2; rw [h1] at h2; exact ⟨h1, by omega, h2.2.1, h2.2.2.1, h2.2.2.2.1, h2.2.2.2.2⟩
theorem wErr_zero {ks : List KR} {gs : List Int} {its : List IR} (h : wErr ks gs its = 0) : ckErr ks = 0 ∧ (gs.length ≤ 256 ∧ its.length ≤ gs.length) ∧ gensP gs ∧ itemsP ks gs its := by
 unfold wErr at h
 split at h
 ·rename_i hh; exact absurd h hh
 ·rename_i hh
  split at h
  ·cases h
  ·split at h
   ·rename_i h1; exact ⟨Decidable.not_not.1 hh, by omega, h1⟩
   ·cases h
theorem pick_len {s k : Int} {o x y : Option (List Int)} {m : Nat} (h : ∀ a, x = some a → a.length ≤ m) : (pickC s k o x y).2.length ≤ m + 1 := by
 unfold pickC
 split
 ·rename_i hh
  obtain ⟨a, rfl⟩ := Option.isSome_iff_exists.1 hh.2.1; have := cl_len (s := s) (k := k) (o := o.getD []) (x := a) (y := y.getD []) (i := a.length); have := h a rfl; simp only [Option.getD_some]; omega
 ·split
  ·simp
  ·split
   ·simp
   ·split <;> simp
theorem comps_len {s : Int} {o x y : List CR} (h : ∀ k c, findC x k = some c → c.vs.length ≤ 16) : ∀ K : Nat, (compsCl s o x y K).length ≤ 17 * K
 | 0 => Nat.le_refl _
 | K + 1 => by
  have h1 := comps_len (s := s) (o := o) (y := y) h K; have h2 := pick_len (s := s) (k := (K : Nat)) (o := fc o (K : Nat)) (x := fc x (K : Nat)) (y := fc y (K : Nat)) (m := 16) fun a ha => by
   unfold fc at ha
   cases hf : findC x (K : Nat) with
   | none => rw [hf] at ha; cases ha
   | some c => rw [hf] at ha; simp only [Option.map_some, Option.some.injEq] at ha; rw [← ha]; exact h _ c hf
  rw [compsCl, List.length_append]; omega
theorem slot_len {K : Nat} {n : Int} {o x y : Option IR} (h : ∀ i, x = some i → ∀ k c, findC i.cs k = some c → c.vs.length ≤ 16) : (slotP K n o x y).2.length ≤ 17 * K + 1 := by
 unfold slotP
 split
 ·rename_i hh
  obtain ⟨a, rfl⟩ := Option.isSome_iff_exists.1 hh.1.2.1; have := comps_len (s := a.e) (o := (o.getD default).cs) (y := (y.getD default).cs) (h a rfl) K; simp only [Option.getD_some]; omega
 ·unfold restP
  split
  ·simp
  ·split
   ·simp
   ·split <;> simp

theorem EqualFl_c {V : Mem} (A : Option Addr) (n c : Nat) (xs : List FR) (h : Cels V [] A (xs.flatMap encF)) (hn : xs.length = n) (hbn : n ≤ 140737488355328) (B : Option Addr) (m d : Nat) (ys : List FR) (h' : Cels V [] B (ys.flatMap encF)) (hm : ys.length = m) (hbm : m ≤ 140737488355328) : CallS Try.prog 29 [.slice A n c, .slice B m d].toArray V [] (fun r L' => r = .bool (decide (All2 (fun a b => a.name = b.name ∧ a.bits = b.bits ∧ a.low = b.low) xs ys)) ∧ L' = []) := by
 refine callS Try.func29 rfl rfl (fun w0 => ?_); refine s_seq (s_region ?_); refine o_val rfl rfl rfl (y_assign (v := (.bool _)) rfl) (o_nil ?_); refine s_seq ?_; refine s_seq (s_region ?_); refine o_val rfl rfl rfl (y_move (v := (.slice _ _ _)) rfl) ?_; refine o_val rfl rfl rfl (y_len Try.runUnderlying56 rfl) ?_; refine o_val rfl rfl rfl (y_move (v := (.slice _ _ _)) rfl) ?_; refine o_val rfl rfl rfl (y_len Try.runUnderlying56 rfl) ?_; refine o_val rfl rfl rfl (y_neq rfl rfl) (o_nil ?_); refine s_if rfl (fun h1 => ?_) (fun h2 => ?_)
 ·refine s_seq (s_region ?_); refine o_val rfl rfl rfl (y_assign (v := (.bool _)) rfl) (o_nil ?_); refine s_ret ?_; exact ⟨_, [], res1 rfl rfl, ⟨congrArg Value.bool (decide_eq_false (fun hh => by have := hh.1; omega)).symm, rfl⟩, sub_picks [] rfl⟩
 ·refine s_skip ?_; refine s_seq ?_; refine s_seq (s_region ?_); refine o_val rfl rfl rfl (y_move (v := (.slice _ _ _)) rfl) ?_; refine o_val rfl rfl rfl (y_len Try.runUnderlying56 rfl) ?_; refine o_val rfl rfl rfl (y_move (v := (.int _ _)) rfl) (o_nil ?_); refine s_block ?_; refine s_loopK (γ := Nat) [(0, (.slice _ _ _)), (1, (.slice _ _ _)), (12, (.int _ _))] [] (fun g => [(13, .int .i64 g)]) (fun g => []) (fun g => g ≤ n ∧ ∀ j, j < g → (fun (a b : FR) => a.name = b.name ∧ a.bits = b.bits ∧ a.low = b.low) (xs.getD j default) (ys.getD j default)) (fun g => n - g) (0) ⟨rfl, rfl, rfl, rfl, trivial⟩ (sub_picks [] rfl) ?_ ?_
  ·exact ⟨Nat.zero_le _, fun j hj => absurd hj (Nat.not_lt_zero j)⟩
  intro g _f hI; obtain ⟨hg, hall⟩ := hI; refine s_seq (s_region ?_); refine o_val rfl rfl rfl (y_lss rfl rfl) (o_nil ?_); refine s_seq ?_; refine s_if rfl (fun h3 => ?_) (fun h4 => ?_)
  ·refine s_skip ?_; refine s_seq ?_; refine s_block ?_; refine s_seq (s_region ?_); refine o_val rfl rfl rfl (y_move (v := (.int _ _)) rfl) ?_; refine o_val rfl rfl rfl (y_assign (v := (.int _ _)) rfl) (o_nil ?_); refine s_seq ?_; refine s_quiet (by kernel_rfl) (by kernel_rfl) ?_; refine q_val rfl rfl rfl (y_move (v := (.slice _ _ _)) rfl) ?_; refine q_val rfl rfl rfl (y_move (v := (.int _ _)) rfl) ?_; refine q_val rfl rfl rfl (y_indexAddr Try.runUnderlying56 Try.sizeOf61 (some_at (sz := 2) encF_len (i := 0) h (by omega)) rfl rfl (by omega)) ?_; refine q_val rfl rfl rfl (y_loads (cs := [_, _, _]) Try.isAgg61 Try.sizeOf61 rfl (by unfold idx; rw [Option.isSome_map]; exact some_at (sz := 2) encF_len (i := 0) h (by omega)) rfl (cels_at (sz := 3) encF_len h.here (by omega))) ?_; refine q_val rfl rfl rfl (y_move (v := (.slice _ _ _)) rfl) ?_; refine q_val rfl rfl rfl (y_move (v := (.int _ _)) rfl) ?_; refine q_val rfl rfl rfl (y_indexAddr Try.runUnderlying56 Try.sizeOf61 (some_at (sz := 2) encF_len (i := 0) h' (by omega)) rfl rfl (by omega)) ?_; refine q_val rfl rfl rfl (y_loads (cs := [_, _, _]) Try.isAgg61 Try.sizeOf61 rfl (by unfold idx; rw [Option.isSome_map]; exact some_at (sz := 2) encF_len (i := 0) h' (by omega)) rfl (cels_at (sz := 3) encF_len h'.here (by omega))) ?_; refine q_val rfl rfl rfl (y_neq_field rfl rfl) ?_; refine q_nil ?_; refine s_forget [(0, (.slice _ _ _)), (1, (.slice _ _ _)), (12, (.int _ _)), (13, (.int _ _)), (24, (.bool _))] ⟨rfl, rfl, rfl, rfl, rfl, trivial⟩ (fun _f => ?_); refine s_if rfl (fun h5 => ?_) (fun h6 => ?_)
   ·have hne := h5; refine s_seq (s_region ?_); refine o_val rfl rfl rfl (y_assign (v := (.bool _)) rfl) (o_nil ?_); refine s_ret ?_; exact ⟨_, [], res1 rfl rfl, ⟨congrArg Value.bool (decide_eq_false (fun hh => hne (hh.2 g (by omega)))).symm, rfl⟩, sub_picks [] rfl⟩
   ·have heq := Decidable.not_not.1 h6; refine s_skip ?_; refine s_region ?_; refine o_val rfl rfl rfl (y_add rfl rfl (by simp only [inK]; omega)) ?_; refine o_val rfl rfl rfl (y_move (v := (.int _ _)) rfl) (o_nil ?_); exact ⟨g + 1, (by first | omega | (dsimp only; omega)), ⟨by omega, all_next hall heq⟩, ⟨(congrArg (Value.int .i64) (by omega)), rfl, rfl, rfl, trivial⟩, (sub_picks [] rfl)⟩
  ·refine s_exit ?_; refine s_seq (s_region ?_); refine o_val rfl rfl rfl (y_assign (v := (.bool _)) rfl) (o_nil ?_); refine s_ret ?_; exact ⟨_, [], res1 rfl rfl, ⟨congrArg Value.bool (decide_eq_true (⟨by omega, fun j hj => hall j (by omega)⟩)).symm, rfl⟩, sub_picks [] rfl⟩

theorem three1_c {V : Mem} (x y : KR) (hx : KOK V x) (hy : KOK V y) : CallS Try.prog 94 [.agg #[.string x.name, .slice x.A x.n x.c], .agg #[.string y.name, .slice y.A y.n y.c]].toArray V [] (fun r L' => r = .bool (decide (x.d = y.d)) ∧ L' = []) := by
 refine callS Try.func94 rfl rfl (fun w0 => ?_); refine s_seq (s_region ?_); refine o_box (v := (.agg #[(.string _), (.slice _ _ _)])) rfl rfl rfl (fun b1 => ?_); refine o_box (v := (.agg #[(.string _), (.slice _ _ _)])) rfl rfl rfl (fun b2 => ?_); refine o_val rfl rfl rfl (y_assign (v := (.bool _)) rfl) (o_nil ?_); refine s_seq (s_region ?_); refine o_val rfl rfl rfl (y_field0 Try.runUnderlying58 rfl Try.sizeOf9 rfl rfl) ?_; refine o_val rfl rfl rfl (y_load Try.isAgg9 rfl (cel_own 0 rfl rfl)) ?_; refine o_val rfl rfl rfl (y_field0 Try.runUnderlying58 rfl Try.sizeOf9 rfl rfl) ?_; refine o_val rfl rfl rfl (y_load Try.isAgg9 rfl (cel_own 1 rfl rfl)) ?_; refine o_split rfl rfl rfl (y_eql_str rfl rfl) (fun p3 => ?_) (fun p4 => ?_)
 ·have hk : x.name = y.name := p3; refine o_val rfl rfl rfl (y_move (v := (.bool _)) rfl) ?_; refine o_guard_yes rfl rfl ?_; refine o_val rfl rfl rfl (y_field0 Try.runUnderlying58 rfl Try.sizeOf56 rfl rfl) ?_; refine o_guard_yes rfl rfl ?_; refine o_val rfl rfl rfl (y_load Try.isAgg56 rfl (cel_own 0 rfl rfl)) ?_; refine o_guard_yes rfl rfl ?_; refine o_val rfl rfl rfl (y_field0 Try.runUnderlying58 rfl Try.sizeOf56 rfl rfl) ?_; refine o_guard_yes rfl rfl ?_; refine o_val rfl rfl rfl (y_load Try.isAgg56 rfl (cel_own 1 rfl rfl)) ?_; refine o_guard_yes rfl rfl ?_; refine o_fn 0 (d := 15) rfl Try.call29 (EqualFl_c x.A x.n x.c x.fs hx.2.2.2.here.down hx.1 (by have := hx.2.2.1; omega) y.A y.n y.c y.fs hy.2.2.2.here.down hy.1 (by have := hy.2.2.1; omega)) rfl ?_; rintro _ _ ⟨rfl, rfl⟩; refine o_val rfl rfl rfl (y_pick_t (v := (.bool _)) rfl rfl) ?_; refine o_val rfl rfl rfl (y_assign (v := (.bool _)) rfl) (o_nil ?_); refine s_forget [(4, (.bool _))] ⟨rfl, trivial⟩ (fun _f => ?_); refine s_ret ?_; exact ⟨_, [], res1 rfl rfl, ⟨congrArg Value.bool (decide_eq_decide.2 ⟨fun hh => Prod.ext hk (flds_eq hh.1 hh.2), fun hh => by have e : x.fs = y.fs := congrArg Prod.snd hh; rw [e]; exact ⟨rfl, fun _ _ => ⟨rfl, rfl, rfl⟩⟩⟩), rfl⟩, sub_picks [] rfl⟩
 ·have hk : ¬ x.name = y.name := p4; refine o_val rfl rfl rfl (y_move (v := (.bool _)) rfl) ?_; refine o_guard_no rfl rfl rfl rfl rfl ?_; refine o_guard_no rfl rfl rfl rfl rfl ?_; refine o_guard_no rfl rfl rfl rfl rfl ?_; refine o_guard_no rfl rfl rfl rfl rfl ?_; refine o_guard_no rfl rfl rfl rfl rfl ?_; refine o_val rfl rfl rfl (y_pick_f (v := (.bool _)) rfl rfl) ?_; refine o_val rfl rfl rfl (y_assign (v := (.bool _)) rfl) (o_nil ?_); refine s_forget [(4, (.bool _))] ⟨rfl, trivial⟩ (fun _f => ?_); refine s_ret ?_; exact ⟨_, [], res1 rfl rfl, ⟨congrArg Value.bool ((decide_eq_false (fun hh => hk (congrArg Prod.fst hh))).symm), rfl⟩, sub_picks [] rfl⟩

theorem EqualFK_c {V : Mem} (A : Option Addr) (n c : Nat) (xs : List KR) (h : Cels V [] A (xs.flatMap encK)) (hn : xs.length = n) (hbn : n ≤ 140737488355328) (hX : ∀ x ∈ xs, KOK V x) (B : Option Addr) (m d : Nat) (ys : List KR) (h' : Cels V [] B (ys.flatMap encK)) (hm : ys.length = m) (hbm : m ≤ 140737488355328) (hY : ∀ x ∈ ys, KOK V x) (fid : FuncId) (cap : List Value) (hcall : ∀ args w, (callFunc fid args).run Try.prog w = .ok (.enter fid args) w) (p : KR → KR → Prop) [∀ x y, Decidable (p x y)] (hf : ∀ (V' : Mem) (x y : KR) (hx : KOK V' x) (hy : KOK V' y), CallS Try.prog fid (([.agg #[.string x.name, .slice x.A x.n x.c], .agg #[.string y.name, .slice y.A y.n y.c]] : List Value) ++ cap).toArray V' [] (fun r L' => r = .bool (decide (p x y)) ∧ L' = [])) : CallS Try.prog 27 [.slice A n c, .slice B m d, .func (.func fid) #[] cap.toArray].toArray V [] (fun r L' => r = .bool (decide (All2 p xs ys)) ∧ L' = []) := by
 refine callS Try.func27 rfl rfl (fun w0 => ?_); refine s_seq (s_region ?_); refine o_val rfl rfl rfl (y_assign (v := (.bool _)) rfl) (o_nil ?_); refine s_seq ?_; refine s_seq (s_region ?_); refine o_val rfl rfl rfl (y_move (v := (.slice _ _ _)) rfl) ?_; refine o_val rfl rfl rfl (y_len Try.runUnderlying23 rfl) ?_; refine o_val rfl rfl rfl (y_move (v := (.slice _ _ _)) rfl) ?_; refine o_val rfl rfl rfl (y_len Try.runUnderlying23 rfl) ?_; refine o_val rfl rfl rfl (y_neq rfl rfl) (o_nil ?_); refine s_if rfl (fun h1 => ?_) (fun h2 => ?_)
 ·refine s_seq (s_region ?_); refine o_val rfl rfl rfl (y_assign (v := (.bool _)) rfl) (o_nil ?_); refine s_ret ?_; exact ⟨_, [], res1 rfl rfl, ⟨congrArg Value.bool (decide_eq_false (fun hh => by have := hh.1; omega)).symm, rfl⟩, sub_picks [] rfl⟩
 ·refine s_skip ?_; refine s_seq ?_; refine s_seq (s_region ?_); refine o_val rfl rfl rfl (y_move (v := (.slice _ _ _)) rfl) ?_; refine o_val rfl rfl rfl (y_len Try.runUnderlying23 rfl) ?_; refine o_val rfl rfl rfl (y_move (v := (.int _ _)) rfl) (o_nil ?_); refine s_block ?_; refine s_loopK (γ := Nat) [(1, (.slice _ _ _)), (2, (.func _ _ _)), (15, (.slice _ _ _)), (16, (.int _ _))] [] (fun g => [(17, .int .i64 g)]) (fun g => []) (fun g => g ≤ n ∧ ∀ j, j < g → p (xs.getD j default) (ys.getD j default)) (fun g => n - g) (0) ⟨rfl, rfl, rfl, rfl, rfl, trivial⟩ (sub_picks [] rfl) ?_ ?_
  ·exact ⟨Nat.zero_le _, fun j hj => absurd hj (Nat.not_lt_zero j)⟩
  intro g _f hI; obtain ⟨hg, hall⟩ := hI; refine s_seq (s_region ?_); refine o_val rfl rfl rfl (y_lss rfl rfl) (o_nil ?_); refine s_seq ?_; refine s_if rfl (fun h3 => ?_) (fun h4 => ?_)
  ·refine s_skip ?_; refine s_seq ?_; refine s_block ?_; refine s_seq (s_region ?_); refine o_val rfl rfl rfl (y_move (v := (.int _ _)) rfl) ?_; refine o_val rfl rfl rfl (y_indexAddr Try.runUnderlying23 Try.sizeOf58 (some_at (sz := 1) encK_len (i := 0) h (by omega)) rfl rfl (by omega)) ?_; refine o_val rfl rfl rfl (y_loads (cs := [_, _]) Try.isAgg58 Try.sizeOf58 rfl (by unfold idx; rw [Option.isSome_map]; exact some_at (sz := 1) encK_len (i := 0) h (by omega)) rfl (cels_at (sz := 2) encK_len h.here (by omega))) ?_; refine o_alloc rfl Try.zeroValue58 rfl (fun b5 => ?_); refine o_val rfl rfl rfl (y_assign (v := (.int _ _)) rfl) ?_; refine o_stores (vs := [(.string _), (.slice _ _ _)]) 0 rfl Try.sizeOf58 rfl rfl rfl (by simp [Value.oneCell']) (by simp) (o_nil ?_); refine s_seq (s_region ?_); refine o_val rfl rfl rfl (y_move (v := (.slice _ _ _)) rfl) ?_; refine o_val rfl rfl rfl (y_move (v := (.int _ _)) rfl) ?_; refine o_val rfl rfl rfl (y_indexAddr Try.runUnderlying23 Try.sizeOf58 (some_at (sz := 1) encK_len (i := 0) h' (by omega)) rfl rfl (by omega)) ?_; refine o_val rfl rfl rfl (y_loads (cs := [_, _]) Try.isAgg58 Try.sizeOf58 rfl (by unfold idx; rw [Option.isSome_map]; exact some_at (sz := 1) encK_len (i := 0) h' (by omega)) rfl (cels_at (sz := 2) encK_len h'.here (by omega))) ?_; refine o_alloc rfl Try.zeroValue58 rfl (fun b6 => ?_); refine o_stores (vs := [(.string _), (.slice _ _ _)]) 1 rfl Try.sizeOf58 rfl rfl rfl (by simp [Value.oneCell']) (by simp) (o_nil ?_); refine s_norm [[(_, .cells [(.string _), (.slice _ _ _)].toArray 58 (0, 0))], [(_, .cells [(.string _), (.slice _ _ _)].toArray 58 (0, 0))]] rfl ?_; refine s_forget [(1, (.slice _ _ _)), (2, (.func _ _ _)), (8, (.pointer _)), (9, (.pointer _)), (15, (.slice _ _ _)), (16, (.int _ _)), (17, (.int _ _))] ⟨rfl, rfl, rfl, rfl, rfl, rfl, rfl, trivial⟩ (fun _f => ?_); refine s_seq (s_region ?_); have hx := hX _ (getD_mem' (show g < xs.length by omega) : (xs.getD ((g : Nat) : Int).toNat default) ∈ xs); have hy := hY _ (getD_mem' (show g < ys.length by omega) : (ys.getD ((g : Nat) : Int).toNat default) ∈ ys); refine o_val rfl rfl rfl (y_move (v := (.func _ _ _)) rfl) ?_; refine o_val rfl rfl rfl (y_loads (cs := [_, _]) Try.isAgg58 Try.sizeOf58 rfl rfl rfl (cels_own 0 rfl rfl)) ?_; refine o_val rfl rfl rfl (y_loads (cs := [_, _]) Try.isAgg58 Try.sizeOf58 rfl rfl rfl (cels_own 1 rfl rfl)) ?_; refine o_fnv' 0 (d := 29) rfl hcall rfl rfl rfl (hf _ (xs.getD ((g : Nat) : Int).toNat default) (ys.getD ((g : Nat) : Int).toNat default) (hx.sub MSub.ext) (hy.sub MSub.ext)) ?_; rintro _ _ ⟨rfl, rfl⟩; refine o_val rfl rfl rfl (y_not rfl) (o_nil ?_); refine s_if rfl (fun h7 => ?_) (fun h8 => ?_)
   ·have hne := h7; refine s_seq (s_region ?_); refine o_val rfl rfl rfl (y_assign (v := (.bool _)) rfl) (o_nil ?_); refine s_ret ?_; exact ⟨_, [], res1 rfl rfl, ⟨congrArg Value.bool (decide_eq_false (fun hh => hne (hh.2 g (by omega)))).symm, rfl⟩, sub_picks [] rfl⟩
   ·have heq := Decidable.not_not.1 h8; refine s_skip ?_; refine s_region ?_; refine o_val rfl rfl rfl (y_add rfl rfl (by simp only [inK]; omega)) ?_; refine o_val rfl rfl rfl (y_move (v := (.int _ _)) rfl) (o_nil ?_); exact ⟨g + 1, (by first | omega | (dsimp only; omega)), ⟨by omega, all_next hall heq⟩, ⟨(congrArg (Value.int .i64) (by omega)), rfl, rfl, rfl, rfl, trivial⟩, (sub_picks [] rfl)⟩
  ·refine s_exit ?_; refine s_seq (s_region ?_); refine o_val rfl rfl rfl (y_assign (v := (.bool _)) rfl) (o_nil ?_); refine s_ret ?_; exact ⟨_, [], res1 rfl rfl, ⟨congrArg Value.bool (decide_eq_true (⟨by omega, fun j hj => hall j (by omega)⟩)).symm, rfl⟩, sub_picks [] rfl⟩

end Go.Proofs.Ytacmbiohjiogiaa.K
