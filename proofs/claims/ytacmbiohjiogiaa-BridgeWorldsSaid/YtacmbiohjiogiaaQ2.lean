/- Parts of the walk, in build order: rules, contracts, plain laws. No condition beyond what each statement names. -/
import Derived.Test.YtacmbiohjiogiaaQ1
import Derived.Test.YtacmbiohjiogiaaProg
import Derived.Lib.Mul64
section
set_option linter.unusedVariables false
set_option linter.unusedSimpArgs false
set_option maxRecDepth 100000
set_option maxHeartbeats 2000000
namespace Go.Proofs.Ytacmbiohjiogiaa.K
open Go.RowKit

/-- A contact of two bodies. -/
structure CoR where
 a : Int
 b : Int
 id : Int
 px : Int
 py : Int
 nx : Int
 ny : Int
 de : Int
 pu : Int
 sl : Int
instance : Inhabited CoR := ⟨⟨0, 0, 0, 0, 0, 0, 0, 0, 0, 0⟩⟩
def encCo (c : CoR) : List Value := [.int .i64 c.a, .int .i64 c.b, .int .i64 c.id, .int .i64 c.px, .int .i64 c.py, .int .i64 c.nx, .int .i64 c.ny, .int .i64 c.de, .int .i64 c.pu, .int .i64 c.sl]
theorem encCo_len (c : CoR) : (encCo c).length = 10 := rfl
/-- What a script of an entity has kept. -/
structure MiR where
 e : Int
 g : Int
 p : Int
 A : Option Addr
 n : Nat
 c : Nat
 vs : List Int
instance : Inhabited MiR := ⟨⟨0, 0, 0, none, 0, 0, []⟩⟩
structure EvR where
 s : Int
 e : Int
 g : Int
 v : Int
instance : Inhabited EvR := ⟨⟨0, 0, 0, 0⟩⟩
end Go.Proofs.Ytacmbiohjiogiaa.K
end
section
namespace Go.Proofs.Ytacmbiohjiogiaa.K
open Go.RowKit
section
variable {P : Program} {V : Mem} {f : Frm} {L : List Grp} {ty : TypeId} {ps : String} {af : Array Edge} {x y y' : Operand}
end
end Go.Proofs.Ytacmbiohjiogiaa.K
end
section
namespace Go.Proofs.Ytacmbiohjiogiaa.K
open Go.RowKit
theorem OS.pre {A : Option Addr} {n cap : Nat} {T : TypeId} {sz : Nat} {cs : List Value} {E : Grp} (h : OS A n cap T sz cs E) {k : Nat} (hk : k ≤ n) : OS A k cap T sz (cs.take (k * sz)) E := by
 obtain ⟨h1, h2, h3, h4⟩ := h; have hmul : k * sz ≤ n * sz := Nat.mul_le_mul_right _ hk; refine ⟨by rw [List.length_take]; omega, by omega, h3, ?_⟩; rcases h4 with ⟨rfl, rfl, rfl⟩ | ⟨r, pre, sp, post, rfl, rfl, hl⟩
 ·exact .inl ⟨rfl, rfl, rfl⟩
 ·refine .inr ⟨r, pre, cs.drop (k * sz) ++ sp, post, rfl, ?_, by rw [List.length_take, List.length_append, List.length_drop]; omega⟩; have e : pre ++ cs ++ sp ++ post = pre ++ cs.take (k * sz) ++ (cs.drop (k * sz) ++ sp) ++ post := by
   conv => lhs; rw [← List.take_append_drop (k * sz) cs]
   simp only [List.append_assoc]
  rw [e]
section
variable {P : Program} {N : Nat} {w0 : World} {V : Mem} {Q : Exit → Frm → List Grp → Prop} {f : Frm} {L : List Grp} {ops : Array Oper} {rest : List Oper} {v : Value}
variable {ty : TypeId} {ps : String} {af : Array Edge} {x y z0 : Operand}
/-- An operation whose value nobody keeps. -/
theorem o_drop {o : Oper} {L' : Grp → List Grp} {R : Grp → Prop} (hg : o.guard = none) (hd : o.dst = none)
  (hy : ∀ w, SH w0 V w L → ∃ v w' E, (execOp (evF f) o).run P w = .ok (.value v) w' ∧ SH w0 V w' (L' E) ∧ R E) (h : ∀ E, R E → opsS P N w0 V ops Q rest f (L' E)) : opsS P N w0 V ops Q (o :: rest) f L := by
 intro a w ha hw; refine wpList_plain hg fun K hK => ?_; unfold Oper.wp; obtain ⟨v, w', E, hr, hs, hR⟩ := hy w hw; rw [ha.eval, hr]
 show K (a.put o.dst v) w'
 rw [hd]; exact hK _ _ (h E hR _ _ ha hs)
/-- clear of the room behind a slice of the call's own. -/
theorem o_clear {t e : TypeId} {i : TypeInfo} {z : Value} {sz : Nat} (j : Nat) (ht : P.underlying t = some (.slice e)) (hi : P.info? e = some i) (hz : i.zero = some z) (hzs : z.cells.size = sz) (hz1 : ∀ u ∈ z.cells.toList, u.oneCell' = true) (hsz : i.size = sz)
  {A : Option Addr} {n cap k c' : Nat} {cs : List Value} {E : Grp} (hj : nth L j = some E) (hos : OS A n cap e sz cs E) (hx : evF f x = .slice (cutA A cap n sz) k c') (hk : n + k ≤ cap)
  (h : ∀ E', OS A n cap e sz cs E' → opsS P N w0 V ops Q rest f (setG L j E')) :
  opsS P N w0 V ops Q (⟨none, .call { callee := .builtin .clear, args := [x].toArray, argTypes := [t].toArray }, ty, ps, af, none⟩ :: rest) f L := by
 subst hsz; refine o_drop (L' := fun E' => setG L j E') (R := fun E' => OS A n cap e i.size cs E') rfl rfl (fun w hw => ?_) h; obtain ⟨p, q, hL, hs⟩ := setG_split hj
 by_cases hk0 : k = 0
 ·subst hk0; refine ⟨.tuple #[], w, E, ?_, by rw [hs, ← hL]; exact hw, hos⟩; have h1 : ∀ B : Option Addr, (Builtin.clear_ [t].toArray ty [.slice B 0 c'].toArray).run P w = .ok (.tuple #[]) w := by
   intro B; cases B <;> simp [Builtin.clear_, run_underlying ht]
  simp only [execOp, resolve, Sem.run_bind, Sem.run_pure, Result.andThen_ok, invoke, builtin, List.map_toArray, List.map_cons, List.map_nil, hx, h1]
 ·rcases hos with ⟨e1, e2, e3, e4⟩; rcases e4 with ⟨rfl, rfl, rfl⟩ | ⟨r, pre, sp, post, rfl, rfl, hl⟩
  ·omega
  ·have hcut : cutA (some ⟨r, pre.length, none⟩) cap n i.size = some ⟨r, pre.length + n * i.size, none⟩ := by
    unfold cutA; rw [if_neg (by omega), idx_some]
   have hb : w.heap[r]? = some (.cells (pre ++ cs ++ sp ++ post).toArray e (0, 0)) := hw.own (r, .cells (pre ++ cs ++ sp ++ post).toArray e (0, 0)) (nth_mem hj _ (by simp)); have hzl : (Builtin.zeroCells z.cells k).toList.length = k * i.size := by rw [Array.length_toList, size_zeroCells, hzs]
   have hh : k * i.size ≤ sp.length := by
    have h1 : (n + k) * i.size ≤ cap * i.size := Nat.mul_le_mul_right _ hk; rw [Nat.add_mul] at h1; omega
   have hz2 : ∀ u ∈ (Builtin.zeroCells z.cells k).toList, u.oneCell' = true := fun u hu => by
    have hu' : u ∈ Builtin.zeroCells z.cells k := Array.mem_toList_iff.1 hu; simp only [Builtin.zeroCells, Array.mem_map, Array.mem_range] at hu'; obtain ⟨q, hq, rfl⟩ := hu'; have hpos : 0 < z.cells.size := by
     rcases Nat.eq_zero_or_pos z.cells.size with e | e
     ·rw [e, Nat.mul_zero] at hq; omega
     ·exact e
    have hlt := Nat.mod_lt q hpos; rw [getElem!_pos z.cells (q % z.cells.size) hlt]; exact hz1 _ (Array.mem_toList_iff.2 (Array.getElem_mem hlt))
   have hst := run_storeCells_at P r (pre.length + n * i.size) e (Builtin.zeroCells z.cells k).toList 0 (pre ++ cs ++ sp ++ post).toArray w hb (by rw [hzl, ← e1]; simp; omega) hz2; have hspl : lay (pre ++ cs ++ sp ++ post) (pre.length + n * i.size) (Builtin.zeroCells z.cells k).toList = pre ++ cs ++ lay sp 0 (Builtin.zeroCells z.cells k).toList ++ post := by
    have h1 := lay_append (pre ++ cs) sp post 0 (Builtin.zeroCells z.cells k).toList (by rw [hzl]; omega); simp only [List.length_append, Nat.add_zero] at h1; rw [← e1, h1]
   refine ⟨.tuple #[], _, _, ?_, setRow_put (l' := pre ++ cs ++ lay sp 0 (Builtin.zeroCells z.cells k).toList ++ post) hw hj, ?_⟩
   ·obtain ⟨k', rfl⟩ : ∃ k', k = k' + 1 := ⟨k - 1, by omega⟩; have h1 : (Builtin.clear_ [t].toArray ty [.slice (some ⟨r, pre.length + n * i.size, none⟩) (k' + 1) c'].toArray).run P w = .ok (.tuple #[]) (w.setRow r (lay (pre ++ cs ++ sp ++ post) (pre.length + n * i.size) (Builtin.zeroCells z.cells (k' + 1)).toList).toArray) := by
     simp only [Builtin.clear_, List.getElem?_toArray, List.getElem?_cons_zero, Sem.run_bind, run_underlying ht, Result.andThen_ok, zeroValue, typeInfo, Sem.run_pure]; simp [lay, hi, hz, hst]
    rw [← hspl]; simp only [execOp, resolve, Sem.run_bind, Sem.run_pure, Result.andThen_ok, invoke, builtin, List.map_toArray, List.map_cons, List.map_nil, hx, hcut, h1]
   ·have hll := lay_length sp 0 (Builtin.zeroCells z.cells k).toList (by rw [hzl]; omega); exact ⟨e1, e2, e3, .inr ⟨r, pre, lay sp 0 (Builtin.zeroCells z.cells k).toList, post, rfl, rfl, by rw [hll]; exact hl⟩⟩
end
end Go.Proofs.Ytacmbiohjiogiaa.K
end
section
set_option linter.unusedVariables false
set_option linter.unusedSimpArgs false
set_option maxRecDepth 100000
namespace Go.Proofs.Ytacmbiohjiogiaa.K
open Go.RowKit

/-- What a component says, and an item: without where it lies. -/
def CR.d (c : CR) : Int × List Int := (c.kind, c.vs)
def IR.d (i : IR) : Int × Int × List (Int × List Int) := (i.e, i.g, i.cs.map CR.d)
theorem mapint_none {xs : List Int} {k : IntKind} (h : xs.map (Value.int k) = []) : xs = [] := by simpa using h
theorem encF_one (fs : List FR) : ∀ c ∈ fs.flatMap encF, c.oneCell' = true := by
 intro c hc; obtain ⟨f, _, hf⟩ := List.mem_flatMap.1 hc; simp only [encF, List.mem_cons, List.not_mem_nil, or_false] at hf; rcases hf with rfl | rfl | rfl <;> rfl
structure LC3 where
 k : Nat
 xs : List CR
 E : Grp
 P : Grp
structure LK3 where
 k : Nat
 xs : List KR
 E : Grp
 P : Grp
structure LI3 where
 k : Nat
 xs : List IR
 E : Grp
 CE : Grp
 P : Grp
structure LW3 where
 kB : Option Addr
 kE : Grp
 kP : Grp
 kx : List KR
 gB : Option Addr
 ge : Nat
 gE : Grp
 iB : Option Addr
 iE : Grp
 b : Nat
def newC (k : Int) (B : Option Addr) (n e : Nat) (vs : List Int) : CR := ⟨k, B, n, e, vs⟩
def newK (s : ByteArray) (B : Option Addr) (n e : Nat) (fs : List FR) : KR := ⟨s, B, n, e, fs⟩
theorem cok_new {G P : Grp} {k : Int} {B : Option Addr} {n e : Nat} {vs : List Int} {T : TypeId} (h : OS B n e T 1 (vs.map (.int .i64)) G) (hn : n ≤ 17592186044416) : COK (inG (G ++ P)) (newC k B n e vs) := ⟨by simpa [newC] using h.len, h.2.1, hn, h.mem.ms inG_left⟩
theorem cok_def (V : Mem) : COK V (default : CR) := ⟨rfl, Nat.le_refl _, Nat.zero_le _, Cels.nil⟩
theorem kok_new {G P : Grp} {s : ByteArray} {B : Option Addr} {n e : Nat} {fs : List FR} {T : TypeId} (h : OS B n e T 3 (fs.flatMap encF) G) (hn : n ≤ 4398046511104) : KOK (inG (G ++ P)) (newK s B n e fs) := ⟨by have := h.len; rw [flat_len encF_len] at this; dsimp only [newK]; omega, h.2.1, hn, h.mem.ms inG_left⟩
theorem kok_def (V : Mem) : KOK V (default : KR) := ⟨rfl, Nat.le_refl _, Nat.zero_le _, Cels.nil⟩
/-- The components of items, each item's in a block of its own. -/
def MCs (T : TypeId) (its : List IR) (CE : Grp) : Prop := ∃ Es : List Grp, CE.Perm Es.flatten ∧ Es.length = its.length ∧ ∀ j, j < its.length → OS (its.getD j default).A (its.getD j default).n (its.getD j default).c T 2 ((its.getD j default).cs.flatMap encC) (Es.getD j [])
theorem MCs.rep (T : TypeId) (n : Nat) : MCs T (List.replicate n default) [] := by
 refine ⟨List.replicate n [], ?_, by simp, fun j hj => ?_⟩
 ·rw [show (List.replicate n ([] : Grp)).flatten = [] by simp]
 ·rw [List.length_replicate] at hj; simp only [List.getD_eq_getElem?_getD, List.getElem?_replicate, hj, if_true, Option.getD_some]; exact OS.nil _ _
theorem os_none {A : Option Addr} {n c : Nat} {T : TypeId} {sz : Nat} {cs : List Value} {E : Grp} (h : OS A n c T sz cs E) (hA : A = none) : E = [] := by
 obtain ⟨_, _, _, h4⟩ := h; rcases h4 with ⟨_, _, h⟩ | ⟨_, _, _, _, h, _⟩
 ·exact h
 ·rw [hA] at h; cases h
theorem getD_set' {α : Type} {xs : List α} {k j : Nat} {y d : α} (h : k < xs.length) : (xs.set k y).getD j d = if j = k then y else xs.getD j d := by
 simp only [List.getD_eq_getElem?_getD, List.getElem?_set]
 by_cases e : j = k
 ·subst e; simp [h]
 ·rw [if_neg (fun e' => e e'.symm), if_neg e]
theorem flatten_set {Es : List Grp} {k : Nat} {E : Grp} (hk : k < Es.length) (h : Es.getD k [] = []) : (Es.set k E).flatten.Perm (E ++ Es.flatten) := by
 induction Es generalizing k with
 | nil => simp at hk
 | cons a l ih =>
  cases k with
  | zero =>
   have ha : a = [] := by simpa using h
   subst ha; simp
  | succ k =>
   simp only [List.set_cons_succ, List.flatten_cons]; have := ih (k := k) (by simpa using hk) (by simpa using h); refine (List.Perm.append_left a this).trans ?_; rw [← List.append_assoc, ← List.append_assoc]; exact List.Perm.append_right _ List.perm_append_comm
theorem MCs.add {T : TypeId} {its : List IR} {CE : Grp} (h : MCs T its CE) {k : Nat} (hk : k < its.length) (h0 : (its.getD k default).A = none) {y : IR} {E : Grp} (hy : OS y.A y.n y.c T 2 (y.cs.flatMap encC) E) : MCs T (its.set k y) (E ++ CE) := by
 obtain ⟨Es, hp, hl, hall⟩ := h; have hE : Es.getD k [] = [] := os_none (hall k hk) h0; refine ⟨Es.set k E, ?_, by simp [hl], fun j hj => ?_⟩
 ·exact (List.Perm.append_left E hp).trans (flatten_set (by omega) hE).symm
 ·rw [List.length_set] at hj; rw [getD_set' hk, getD_set' (by omega)]
  by_cases e : j = k
  ·rw [if_pos e, if_pos e]; exact hy
  ·rw [if_neg e, if_neg e]; exact hall j hj
theorem CloneI_k0 (w : World) : (Instr.buildSlice 22 0 ([] : List (Nat × Value)).toArray).run Try.prog w = .ok (.slice (some ⟨w.heap.size, 0, none⟩) 0 0) { w with heap := w.heap.push (.cells ([] : List Value).toArray 3 (0, 0)) } := by kernel_rfl
theorem CloneI_c {V : Mem} (A : Option Addr) (n c : Nat) (bb : List Int) (h : Cels V [] A ((bb).map (.int .i64))) (hn : bb.length = n) (hb : n * 8 ≤ 140737488355328) : CallS Try.prog 93 [.slice A n c].toArray V []
  (fun r L' => ∃ B e G, r = .slice B n e ∧ OS B n e 3 1 ((bb).map (.int .i64)) G ∧ L' = [G]) := by
 refine callS Try.func93 rfl rfl (fun w0 => ?_); refine s_seq (s_region ?_); refine ov (y_assign (v := .slice _ _ _) rfl) (o_nil ?_); refine s_seq ?_; refine s_seq (s_region ?_); refine ov (y_move (v := .slice _ _ _) rfl) ?_; refine ov (y_eql_nil Try.underlying22 rfl rfl) (o_nil ?_); refine s_if rfl (fun h1 => ?_) (fun h2 => ?_)
 ·subst h1; have hbb := h.none_nil; have hb0 : bb = [] := mapint_none hbb; subst hb0; obtain rfl : 0 = n := hn; refine s_seq (s_region ?_); refine ov (y_assign (v := .slice _ _ _) rfl) (o_nil ?_); refine s_ret ?_; exact ⟨_, [[]], res1 rfl rfl, ⟨_, _, [], rfl, OS.nil _ _, rfl⟩, sub_none⟩
 ·refine s_skip ?_; refine s_seq (s_region ?_); refine o_lit (vs := []) rfl rfl (CloneI_k0) (fun b3 => ?_); refine ov (y_move (v := .slice _ _ _) rfl) ?_; refine o_append (sz := 1) (bytes := 8) (news := (bb).map (.int .i64)) 0 rfl Try.underlying22 Try.type3 rfl rfl rfl rfl rfl (OS.lit (sz := 1) (n := 0) rfl (by decide)) rfl rfl (Src.rd (sz := 0) Try.underlying22 h.here (by simp [hn]) (one_int _ _)) (by omega) (fun A4 c5 E6 ho7 hn8 => ?_); have ho9 : OS A4 n c5 3 1 ((bb).map (.int .i64)) E6 := by simpa using ho7
  clear ho7
  refine ov (y_assign (v := .slice _ _ _) rfl) (o_nil ?_); refine s_norm [_] rfl ?_; refine s_ret ?_; exact ⟨_, _, res1 rfl rfl, ⟨_, _, _, congrArg (fun k => Value.slice _ k _) (Nat.zero_add _), ho9, rfl⟩, sub_front ⟨_, rfl⟩⟩

theorem CopyC_k0 (v0 : Int) (v1A : Option Addr) (v1n : Nat) (v1c : Nat) (w : World) : (Instr.build 155 ([(0, .int .i64 v0), (1, .slice v1A v1n v1c)] : List (Nat × Value)).toArray).run Try.prog w = .ok (.agg #[.int .i64 v0, .slice v1A v1n v1c]) w := by kernel_rfl
theorem CopyC_c {V : Mem} (A : Option Addr) (n c : Nat) (cs : List CR) (hcs : CsOK V A n c cs) : CallS Try.prog 152 [.slice A n c].toArray V [] (fun r L' => ∃ (B : Option Addr) (E P : Grp) (xs : List CR), r = .slice B n n ∧ OS B n n 155 2 ((xs).flatMap encC) E ∧ (∀ x ∈ xs, COK (inG P) x) ∧ xs.map CR.d = cs.map CR.d ∧ L' = [E, P]) := by
 obtain ⟨hCl, hCc, hCb, hC, hCC⟩ := hcs; refine callS Try.func152 rfl rfl (fun w0 => ?_); refine s_seq (s_region ?_); refine ov (y_assign (v := .slice _ _ _) rfl) (o_nil ?_); refine s_seq (s_region ?_); refine ov (y_move (v := .slice _ _ _) rfl) ?_; refine ov (y_len Try.runUnderlying33 rfl) ?_; refine o_make (sz := 2) (bytes := 32) (n := n) rfl Try.underlying33 Try.type155 rfl rfl rfl rfl rfl (by omega) (fun oA oE ho1 hoS => ?_); have hout : OS oA n n 155 2 (((List.replicate n default)).flatMap encC) oE := os_made_rec (enc := encC) rfl rfl ho1
 clear ho1
 refine ov (y_assign (v := .slice _ _ _) rfl) (o_nil ?_); refine s_seq ?_; refine s_seq (s_region ?_); refine ov (y_move (v := .slice _ _ _) rfl) ?_; refine ov (y_len Try.runUnderlying33 rfl) ?_; refine ov (y_move (v := .int _ _) rfl) (o_nil ?_); refine s_block ?_; refine s_group ?_; refine s_loopK (γ := LC3) [(2, .slice _ _ _), (3, .slice _ _ _), (9, .slice _ _ _), (10, .int _ _)] [] (fun g => [(11, .int .i64 g.k)]) (fun g => [g.E, g.P]) (fun g => g.k ≤ n ∧ OS oA n n 155 2 ((g.xs).flatMap encC) g.E ∧ (∀ x ∈ g.xs, COK (inG g.P) x) ∧ (g.xs.take g.k).map CR.d = (cs.take g.k).map CR.d) (fun g => n - g.k) (LC3.mk 0 (List.replicate n default) oE []) ⟨rfl, rfl, rfl, rfl, rfl, trivial⟩ (sub_picks [0, 0] rfl) ?_ ?_
 ·exact ⟨Nat.zero_le _, hout, all_rep (cok_def _), rfl⟩
 intro g _f hI; refine s_norm _ (by simp only [pull, picks, setG, List.cons_append, List.nil_append, List.append_nil, List.drop_succ_cons, List.drop_zero]; rfl) ?_; obtain ⟨hgk, hxo, hxc, hxt⟩ := hI; have hxl : g.xs.length = n := by have := hxo.len; rw [flat_len encC_len] at this; omega
 refine s_seq (s_region ?_); refine ov (y_lss rfl rfl) (o_nil ?_); refine s_seq ?_; refine s_if rfl (fun h2 => ?_) (fun h3 => ?_)
 ·refine s_skip ?_; refine s_seq ?_; refine s_block ?_; refine s_seq (s_region ?_); refine ov (y_move (v := .int _ _) rfl) ?_; refine ov (y_indexAddr Try.runUnderlying33 Try.sizeOf155 (some_at (sz := 1) encC_len (i := 0) hC (by omega)) rfl rfl (by omega)) ?_; refine ov (y_loads (cs := [_, _]) Try.isAgg155 Try.sizeOf155 rfl (by unfold idx; rw [Option.isSome_map]; exact some_at (sz := 1) encC_len (i := 0) hC (by omega)) rfl (cels_at (sz := 2) encC_len hC.here (by omega))) ?_; refine o_alloc rfl Try.zeroValue155 rfl (fun b4 => ?_); refine ov (y_assign (v := .int _ _) rfl) ?_; refine o_stores (vs := [(.int _ _), (.slice _ _ _)]) 2 rfl Try.sizeOf155 rfl rfl rfl (by simp [Value.oneCell']) (by simp) (o_nil ?_); refine s_drawn 1 (by kernel_rfl) ?_; have hcc := hCC _ (getD_mem' (show g.k < cs.length by omega) : (cs.getD ((g.k : Nat) : Int).toNat default) ∈ cs); refine dv 0 rfl rfl (y_move (v := .slice _ _ _) rfl) ?_; refine dv 1 rfl rfl (y_move (v := .int _ _) rfl) ?_; refine dv 2 rfl rfl (y_field0 Try.runUnderlying155 rfl Try.sizeOf3 rfl rfl) ?_; refine dv 3 rfl rfl (y_load Try.isAgg3 rfl (cel_own 1 rfl rfl)) ?_; refine dv 4 rfl rfl (y_field0 Try.runUnderlying155 rfl Try.sizeOf22 rfl rfl) ?_; refine dv 5 rfl rfl (y_load Try.isAgg22 rfl (cel_own 1 rfl rfl)) ?_; refine d_eff (k := 6) (n := 1) (m := 2) rfl (by kernel_rfl) rfl ?_; refine o_fn 0 (d := 22) rfl Try.call93 (CloneI_c (cs.getD ((g.k : Nat) : Int).toNat default).A (cs.getD ((g.k : Nat) : Int).toNat default).n (cs.getD ((g.k : Nat) : Int).toNat default).c (cs.getD ((g.k : Nat) : Int).toNat default).vs hcc.2.2.2.here.down hcc.1 (by have := hcc.2.2.1; omega)) rfl ?_; rintro _ _ ⟨vB, ve, vG, rfl, hvo, rfl⟩; refine o_nil ?_; refine dv 7 rfl rfl (y_build (vs := [(0, .int _ _), (1, .slice _ _ _)]) rfl (CopyC_k0 _ _ _ _)) ?_; refine dv 8 rfl rfl (y_indexAddr Try.runUnderlying33 Try.sizeOf155 (hxo.some_of (by omega)) rfl rfl (by omega)) ?_; refine d_eff (k := 9) (n := 2) (m := 2) rfl (by kernel_rfl) rfl ?_; refine o_store_os (vs := [(.int _ _), (.slice _ _ _)]) 1 rfl hxo Try.sizeOf155 rfl rfl rfl (by simp [Value.oneCell']) (by simp) (by rw [flat_len encC_len]; simp; omega) (fun E5 ho6 => ?_); have ho7 : OS oA n n 155 2 ((g.xs.set ((g.k : Nat) : Int).toNat (newC (cs.getD ((g.k : Nat) : Int).toNat default).kind vB (cs.getD ((g.k : Nat) : Int).toNat default).n ve (cs.getD ((g.k : Nat) : Int).toNat default).vs)).flatMap encC) E5 := os_set encC_len ho6 (by omega)
  clear ho6
  refine o_nil ?_; refine d_nil (n := 2) (m := 2) (by kernel_rfl) rfl ?_; refine s_forget [(2, .slice _ _ _), (3, .slice _ _ _), (9, .slice _ _ _), (10, .int _ _), (11, .int _ _)] ⟨rfl, rfl, rfl, rfl, rfl, trivial⟩ (fun _f => ?_); refine s_region ?_; refine o_pull 2 ?_; refine o_pull 1 ?_; refine o_fuse ?_; refine ov (y_add rfl rfl (by simp only [inK]; omega)) ?_; refine ov (y_move (v := .int _ _) rfl) (o_nil ?_); exact ⟨LC3.mk (g.k + 1) (g.xs.set ((g.k : Nat) : Int).toNat (newC (cs.getD ((g.k : Nat) : Int).toNat default).kind vB (cs.getD ((g.k : Nat) : Int).toNat default).n ve (cs.getD ((g.k : Nat) : Int).toNat default).vs)) E5 (vG ++ g.P), (by first | omega | (dsimp only; omega)), ⟨by dsimp only; omega, ho7, all_set (fun x hx => (hxc x hx).sub inG_right) (cok_new hvo hcc.2.2.1), map_take_set (by omega) (by omega) hxt rfl⟩, ⟨(congrArg (Value.int .i64) (by (try dsimp only); omega)), rfl, rfl, rfl, rfl, trivial⟩, (sub_picks [1, 0] rfl)⟩
 ·refine s_exit ?_; refine s_seq (s_region ?_); refine ov (y_move (v := .slice _ _ _) rfl) ?_; refine ov (y_assign (v := .slice _ _ _) rfl) (o_nil ?_); refine s_ret ?_; have hgn : g.k = n := by omega
  rw [hgn, List.take_of_length_le (by omega), List.take_of_length_le (by omega)] at hxt; exact ⟨_, [g.E, g.P], res1 rfl rfl, ⟨_, _, _, _, rfl, hxo, hxc, hxt, rfl⟩, sub_picks [0, 0] rfl⟩

theorem CopyK_k0 (v0 : ByteArray) (v1A : Option Addr) (v1n : Nat) (v1c : Nat) (w : World) : (Instr.build 58 ([(0, .string v0), (1, .slice v1A v1n v1c)] : List (Nat × Value)).toArray).run Try.prog w = .ok (.agg #[.string v0, .slice v1A v1n v1c]) w := by kernel_rfl
theorem CopyK_c {V : Mem} (A : Option Addr) (n c : Nat) (ks : List KR) (hks : KsOK V A n c ks) : CallS Try.prog 151 [.slice A n c].toArray V [] (fun r L' => ∃ (B : Option Addr) (E P : Grp) (xs : List KR), r = .slice B n n ∧ OS B n n 58 2 ((xs).flatMap encK) E ∧ (∀ x ∈ xs, KOK (inG P) x) ∧ xs.map KR.d = ks.map KR.d ∧ L' = [E, P]) := by
 obtain ⟨hKl, hKc, hKb, hK, hKK⟩ := hks; refine callS Try.func151 rfl rfl (fun w0 => ?_); refine s_seq (s_region ?_); refine ov (y_assign (v := .slice _ _ _) rfl) (o_nil ?_); refine s_seq (s_region ?_); refine ov (y_move (v := .slice _ _ _) rfl) ?_; refine ov (y_len Try.runUnderlying23 rfl) ?_; refine o_make (sz := 2) (bytes := 40) (n := n) rfl Try.underlying23 Try.type58 rfl rfl rfl rfl rfl (by omega) (fun oA oE ho1 hoS => ?_); have hout : OS oA n n 58 2 (((List.replicate n default)).flatMap encK) oE := os_made_rec (enc := encK) rfl rfl ho1
 clear ho1
 refine ov (y_assign (v := .slice _ _ _) rfl) (o_nil ?_); refine s_seq ?_; refine s_seq (s_region ?_); refine ov (y_move (v := .slice _ _ _) rfl) ?_; refine ov (y_len Try.runUnderlying23 rfl) ?_; refine ov (y_move (v := .int _ _) rfl) (o_nil ?_); refine s_block ?_; refine s_group ?_; refine s_loopK (γ := LK3) [(2, .slice _ _ _), (3, .slice _ _ _), (9, .slice _ _ _), (10, .int _ _)] [] (fun g => [(11, .int .i64 g.k)]) (fun g => [g.E, g.P]) (fun g => g.k ≤ n ∧ OS oA n n 58 2 ((g.xs).flatMap encK) g.E ∧ (∀ x ∈ g.xs, KOK (inG g.P) x) ∧ (g.xs.take g.k).map KR.d = (ks.take g.k).map KR.d) (fun g => n - g.k) (LK3.mk 0 (List.replicate n default) oE []) ⟨rfl, rfl, rfl, rfl, rfl, trivial⟩ (sub_picks [0, 0] rfl) ?_ ?_
 ·exact ⟨Nat.zero_le _, hout, all_rep (kok_def _), rfl⟩
 intro g _f hI; refine s_norm _ (by simp only [pull, picks, setG, List.cons_append, List.nil_append, List.append_nil, List.drop_succ_cons, List.drop_zero]; rfl) ?_; obtain ⟨hgk, hxo, hxc, hxt⟩ := hI; have hxl : g.xs.length = n := by have := hxo.len; rw [flat_len encK_len] at this; omega
 refine s_seq (s_region ?_); refine ov (y_lss rfl rfl) (o_nil ?_); refine s_seq ?_; refine s_if rfl (fun h2 => ?_) (fun h3 => ?_)
 ·refine s_skip ?_; refine s_seq ?_; refine s_block ?_; refine s_seq (s_region ?_); refine ov (y_move (v := .int _ _) rfl) ?_; refine ov (y_indexAddr Try.runUnderlying23 Try.sizeOf58 (some_at (sz := 1) encK_len (i := 0) hK (by omega)) rfl rfl (by omega)) ?_; refine ov (y_loads (cs := [_, _]) Try.isAgg58 Try.sizeOf58 rfl (by unfold idx; rw [Option.isSome_map]; exact some_at (sz := 1) encK_len (i := 0) hK (by omega)) rfl (cels_at (sz := 2) encK_len hK.here (by omega))) ?_; have hkk := hKK _ (getD_mem' (show g.k < ks.length by omega) : (ks.getD ((g.k : Nat) : Int).toNat default) ∈ ks); refine o_alloc rfl Try.zeroValue58 rfl (fun b4 => ?_); refine ov (y_assign (v := .int _ _) rfl) ?_; refine o_stores (vs := [(.string _), (.slice _ _ _)]) 2 rfl Try.sizeOf58 rfl rfl rfl (by simp [Value.oneCell']) (by simp) (o_nil ?_); refine s_drawn 1 (by kernel_rfl) ?_; refine dv 0 rfl rfl (y_move (v := .slice _ _ _) rfl) ?_; refine dv 1 rfl rfl (y_move (v := .int _ _) rfl) ?_; refine dv 2 rfl rfl (y_field0 Try.runUnderlying58 rfl Try.sizeOf9 rfl rfl) ?_; refine dv 3 rfl rfl (y_load Try.isAgg9 rfl (cel_own 1 rfl rfl)) ?_; refine dv 4 rfl rfl (y_field0 Try.runUnderlying58 rfl Try.sizeOf56 rfl rfl) ?_; refine dv 5 rfl rfl (y_load Try.isAgg56 rfl (cel_own 1 rfl rfl)) ?_; refine d_eff (k := 6) (n := 1) (m := 2) rfl (by kernel_rfl) rfl ?_; refine o_newgroup ?_; refine o_append (sz := 3) (bytes := 32) (news := (ks.getD ((g.k : Nat) : Int).toNat default).fs.flatMap encF) 3 rfl Try.underlying56 Try.type61 rfl rfl rfl rfl rfl (OS.nil 61 3) rfl rfl (Src.rd (sz := 2) Try.underlying56 hkk.2.2.2.here (by rw [flat_len encF_len, hkk.1]) (encF_one _)) (by have := hkk.2.2.1; omega) (fun A5 c6 E7 ho8 hn9 => ?_); have ho10 : OS A5 (ks.getD ((g.k : Nat) : Int).toNat default).n c6 61 3 (((ks.getD ((g.k : Nat) : Int).toNat default).fs).flatMap encF) E7 := (by simpa using ho8)
  clear ho8
  refine o_nil ?_; refine dv 7 rfl rfl (y_build (vs := [(0, .string _), (1, .slice _ _ _)]) rfl (CopyK_k0 _ _ _ _)) ?_; refine dv 8 rfl rfl (y_indexAddr Try.runUnderlying23 Try.sizeOf58 (hxo.some_of (by omega)) rfl rfl (by omega)) ?_; refine d_eff (k := 9) (n := 1) (m := 2) rfl (by kernel_rfl) rfl ?_; refine o_store_os (vs := [(.string _), (.slice _ _ _)]) 0 rfl hxo Try.sizeOf58 rfl rfl rfl (by simp [Value.oneCell']) (by simp) (by rw [flat_len encK_len]; simp; omega) (fun E11 ho12 => ?_); have ho13 : OS oA n n 58 2 ((g.xs.set ((g.k : Nat) : Int).toNat (newK (ks.getD ((g.k : Nat) : Int).toNat default).name A5 (0 + (ks.getD ((g.k : Nat) : Int).toNat default).n) c6 (ks.getD ((g.k : Nat) : Int).toNat default).fs)).flatMap encK) E11 := os_set encK_len ho12 (by omega)
  clear ho12
  refine o_nil ?_; refine d_nil (n := 1) (m := 2) (by kernel_rfl) rfl ?_; refine s_norm [_, _, [(_, .cells [(.string _), (.slice _ _ _)].toArray 58 (0, 0))], _] rfl ?_; refine s_forget [(2, .slice _ _ _), (3, .slice _ _ _), (9, .slice _ _ _), (10, .int _ _), (11, .int _ _)] ⟨rfl, rfl, rfl, rfl, rfl, trivial⟩ (fun _f => ?_); refine s_region ?_; refine o_pull 1 ?_; refine o_pull 3 ?_; refine o_fuse ?_; refine ov (y_add rfl rfl (by simp only [inK]; omega)) ?_; refine ov (y_move (v := .int _ _) rfl) (o_nil ?_); exact ⟨LK3.mk (g.k + 1) (g.xs.set ((g.k : Nat) : Int).toNat (newK (ks.getD ((g.k : Nat) : Int).toNat default).name A5 (0 + (ks.getD ((g.k : Nat) : Int).toNat default).n) c6 (ks.getD ((g.k : Nat) : Int).toNat default).fs)) E11 (E7 ++ g.P), (by first | omega | (dsimp only; omega)), ⟨by dsimp only; omega, ho13, all_set (fun x hx => (hxc x hx).sub inG_right) (by rw [Nat.zero_add]; exact kok_new ho10 hkk.2.2.1), map_take_set (by omega) (by omega) hxt rfl⟩, ⟨(congrArg (Value.int .i64) (by (try dsimp only); omega)), rfl, rfl, rfl, rfl, trivial⟩, (sub_picks [1, 0] rfl)⟩
 ·refine s_exit ?_; refine s_seq (s_region ?_); refine ov (y_move (v := .slice _ _ _) rfl) ?_; refine ov (y_assign (v := .slice _ _ _) rfl) (o_nil ?_); refine s_ret ?_; have hgn : g.k = n := by omega
  rw [hgn, List.take_of_length_le (by omega), List.take_of_length_le (by omega)] at hxt; exact ⟨_, [g.E, g.P], res1 rfl rfl, ⟨_, _, _, _, rfl, hxo, hxc, hxt, rfl⟩, sub_picks [0, 0] rfl⟩

theorem CopyW_k0 (v0A : Option Addr) (v0n : Nat) (v0c : Nat) (v1A : Option Addr) (v1n : Nat) (v1c : Nat) (v2A : Option Addr) (v2n : Nat) (v2c : Nat) (w : World) : (Instr.build 47 ([(0, .slice v0A v0n v0c), (1, .slice v1A v1n v1c), (2, .slice v2A v2n v2c)] : List (Nat × Value)).toArray).run Try.prog w = .ok (.agg #[.slice v0A v0n v0c, .slice v1A v1n v1c, .slice v2A v2n v2c]) w := by kernel_rfl
theorem CopyW_k1 (v0x0 : Int) (v0x1 : Int) (v1A : Option Addr) (v1n : Nat) (v1c : Nat) (w : World) : (Instr.build 136 ([(0, (.agg #[(.int .i64 v0x0), (.int .i64 v0x1)])), (1, .slice v1A v1n v1c)] : List (Nat × Value)).toArray).run Try.prog w = .ok (.agg #[.int .i64 v0x0, .int .i64 v0x1, .slice v1A v1n v1c]) w := by kernel_rfl
theorem CopyW_c {V : Mem} (w : WR) (hw : WOK V w) : CallS Try.prog 95 [.agg #[.slice w.kA w.kn w.kc, .slice w.gA w.gn w.gc, .slice w.iA w.iN w.iC]].toArray V [] (fun r L' => ∃ (w' : WR) (KE KP GE IE CE VP : Grp), r = .agg #[.slice w'.kA w'.kn w'.kc, .slice w'.gA w'.gn w'.gc, .slice w'.iA w'.iN w'.iC] ∧ OS w'.kA w'.kn w'.kc 58 2 ((w'.ks).flatMap encK) KE ∧ (∀ x ∈ w'.ks, KOK (inG KP) x) ∧ OS w'.gA w'.gn w'.gc 3 1 ((w'.gs).map (.int .i64)) GE ∧ OS w'.iA w'.iN w'.iC 136 3 ((w'.its).flatMap encIt) IE ∧ MCs 155 w'.its CE ∧ (∀ x ∈ w'.its, ∀ y ∈ x.cs, COK (inG VP) y) ∧ w'.ks.map KR.d = w.ks.map KR.d ∧ w'.gs = w.gs ∧ w'.its.map IR.d = w.its.map IR.d ∧ L' = [KE, KP, GE, IE, CE, VP]) := by
 obtain ⟨⟨hwKl, hwKc, hwKb, hwK, hwKK⟩, ⟨hwGl, hwGc, hwGb, hwG⟩, ⟨hwIl, hwIc, hwIb, hwI, hwII⟩⟩ := hw; refine callS Try.func95 rfl rfl (fun w0 => ?_); refine s_seq (s_region ?_); refine o_box (v := (.agg #[(.slice _ _ _), (.slice _ _ _), (.slice _ _ _)])) rfl rfl rfl (fun b1 => ?_); refine o_alloc rfl Try.zeroValue47 rfl (fun b2 => ?_); refine o_nil ?_; refine s_joinK (γ := LW3) [(1, .pointer _), (2, .pointer _)] [_, _] (fun u => [(3, .pointer (some ⟨u.b, 0, none⟩))]) (fun u => [u.kE, u.kP, u.gE, u.iE, [(u.b, .cells [.slice u.kB w.kn w.kn, .slice u.gB w.gn u.ge, .slice u.iB w.iN w.iN].toArray 47 (0, 0))]]) (fun u => OS u.kB w.kn w.kn 58 2 ((u.kx).flatMap encK) u.kE ∧ (∀ x ∈ u.kx, KOK (inG u.kP) x) ∧ u.kx.map KR.d = w.ks.map KR.d ∧ OS u.gB w.gn u.ge 3 1 ((w.gs).map (.int .i64)) u.gE ∧ OS u.iB w.iN w.iN 136 3 (((List.replicate w.iN default)).flatMap encIt) u.iE) ⟨rfl, rfl, trivial⟩ [0, 0] rfl ?_ ?_
 ·refine s_drawn 0 (by kernel_rfl) ?_; refine dv 0 rfl rfl (y_field0 Try.runUnderlying47 rfl Try.sizeOf23 rfl rfl) ?_; refine dv 1 rfl rfl (y_load Try.isAgg23 rfl (cel_own 0 rfl rfl)) ?_; refine dv 3 rfl rfl (y_field0 Try.runUnderlying47 rfl Try.sizeOf22 rfl rfl) ?_; refine dv 4 rfl rfl (y_load Try.isAgg22 rfl (cel_own 0 rfl rfl)) ?_; refine dv 6 rfl rfl (y_field0 Try.runUnderlying47 rfl Try.sizeOf45 rfl rfl) ?_; refine dv 7 rfl rfl (y_load Try.isAgg45 rfl (cel_own 0 rfl rfl)) ?_; refine dv 8 rfl rfl (y_len Try.runUnderlying45 rfl) ?_; refine d_eff3 (k := 2) (k' := 9) (k'' := 11) (n := 0) (m := 2) rfl rfl rfl (by kernel_rfl) rfl ?_ ?_ ?_
  ·refine o_fn 0 (d := 8) rfl Try.call151 (CopyK_c w.kA w.kn w.kc w.ks ⟨hwKl, hwKc, hwKb, hwK.here.down, fun x hx => (hwKK x hx).sub MSub.ext⟩) rfl ?_; rintro _ _ ⟨kB, kE, kP, kx, rfl, hko, hkx, hks, rfl⟩; refine o_nil ?_; refine d_eff3 (k := 5) (k' := 9) (k'' := 11) (n := 2) (m := 2) rfl rfl rfl (by kernel_rfl) rfl ?_ ?_ ?_
   ·refine o_fn 0 (d := 11) rfl Try.call93 (CloneI_c w.gA w.gn w.gc w.gs hwG.here.down hwGl (by omega)) rfl ?_; rintro _ _ ⟨gB, ge, gE, rfl, hgo, rfl⟩; refine o_nil ?_; refine d_eff2 (k := 9) (k' := 11) (n := 3) (m := 2) rfl rfl (by kernel_rfl) rfl ?_ ?_
    ·refine o_make (sz := 3) (bytes := 40) (n := w.iN) rfl Try.underlying45 Try.type136 rfl rfl rfl rfl rfl (by omega) (fun iB iE ho3 hiS => ?_); have hout : OS iB w.iN w.iN 136 3 (((List.replicate w.iN default)).flatMap encIt) iE := os_made_rec (enc := encIt) rfl rfl ho3
     clear ho3
     refine o_nil ?_; refine dv 10 rfl rfl (y_build (vs := [(0, .slice _ _ _), (1, .slice _ _ _), (2, .slice _ _ _)]) rfl (CopyW_k0 _ _ _ _ _ _ _ _ _)) ?_; refine d_eff (k := 11) (n := 3) (m := 2) rfl (by kernel_rfl) rfl ?_; refine o_alloc rfl Try.zeroValue47 rfl (fun b4 => ?_); refine o_nil ?_; refine d_eff (k := 12) (n := 3) (m := 2) rfl (by kernel_rfl) rfl ?_; refine o_stores (vs := [(.slice _ _ _), (.slice _ _ _), (.slice _ _ _)]) 6 rfl Try.sizeOf47 rfl rfl rfl (by simp [Value.oneCell']) (by simp) (o_nil ?_); refine d_nil (n := 3) (m := 2) (by kernel_rfl) rfl ?_; exact ⟨⟨kB, kE, kP, kx, gB, ge, gE, iB, iE, b4⟩, ⟨hko, hkx, hks, hgo, hout⟩, ⟨rfl, rfl, rfl, trivial⟩, (sub_picks [1, 1, 0, 2, 2, 0, 0] rfl)⟩
    ·refine o_alloc rfl Try.zeroValue47 rfl (fun b5 => ?_); refine o_nil ?_; refine d_eff (k := 9) (n := 3) (m := 2) rfl (by kernel_rfl) rfl ?_; refine o_make (sz := 3) (bytes := 40) (n := w.iN) rfl Try.underlying45 Try.type136 rfl rfl rfl rfl rfl (by omega) (fun iB iE ho6 hiS => ?_); have hout : OS iB w.iN w.iN 136 3 (((List.replicate w.iN default)).flatMap encIt) iE := os_made_rec (enc := encIt) rfl rfl ho6
     clear ho6
     refine o_nil ?_; refine dv 10 rfl rfl (y_build (vs := [(0, .slice _ _ _), (1, .slice _ _ _), (2, .slice _ _ _)]) rfl (CopyW_k0 _ _ _ _ _ _ _ _ _)) ?_; refine d_eff (k := 12) (n := 3) (m := 2) rfl (by kernel_rfl) rfl ?_; refine o_stores (vs := [(.slice _ _ _), (.slice _ _ _), (.slice _ _ _)]) 5 rfl Try.sizeOf47 rfl rfl rfl (by simp [Value.oneCell']) (by simp) (o_nil ?_); refine d_nil (n := 3) (m := 2) (by kernel_rfl) rfl ?_; exact ⟨⟨kB, kE, kP, kx, gB, ge, gE, iB, iE, b5⟩, ⟨hko, hkx, hks, hgo, hout⟩, ⟨rfl, rfl, rfl, trivial⟩, (sub_picks [1, 1, 0, 3, 2, 0, 0] rfl)⟩
   ·refine o_make (sz := 3) (bytes := 40) (n := w.iN) rfl Try.underlying45 Try.type136 rfl rfl rfl rfl rfl (by omega) (fun iB iE ho7 hiS => ?_); have hout : OS iB w.iN w.iN 136 3 (((List.replicate w.iN default)).flatMap encIt) iE := os_made_rec (enc := encIt) rfl rfl ho7
    clear ho7
    refine o_nil ?_; refine d_eff2 (k := 5) (k' := 11) (n := 2) (m := 2) rfl rfl (by kernel_rfl) rfl ?_ ?_
    ·refine o_fn 0 (d := 11) rfl Try.call93 (CloneI_c w.gA w.gn w.gc w.gs hwG.here.down hwGl (by omega)) rfl ?_; rintro _ _ ⟨gB, ge, gE, rfl, hgo, rfl⟩; refine o_nil ?_; refine dv 10 rfl rfl (y_build (vs := [(0, .slice _ _ _), (1, .slice _ _ _), (2, .slice _ _ _)]) rfl (CopyW_k0 _ _ _ _ _ _ _ _ _)) ?_; refine d_eff (k := 11) (n := 3) (m := 2) rfl (by kernel_rfl) rfl ?_; refine o_alloc rfl Try.zeroValue47 rfl (fun b8 => ?_); refine o_nil ?_; refine d_eff (k := 12) (n := 3) (m := 2) rfl (by kernel_rfl) rfl ?_; refine o_stores (vs := [(.slice _ _ _), (.slice _ _ _), (.slice _ _ _)]) 6 rfl Try.sizeOf47 rfl rfl rfl (by simp [Value.oneCell']) (by simp) (o_nil ?_); refine d_nil (n := 3) (m := 2) (by kernel_rfl) rfl ?_; exact ⟨⟨kB, kE, kP, kx, gB, ge, gE, iB, iE, b8⟩, ⟨hko, hkx, hks, hgo, hout⟩, ⟨rfl, rfl, rfl, trivial⟩, (sub_picks [1, 1, 0, 2, 2, 0, 0] rfl)⟩
    ·refine o_alloc rfl Try.zeroValue47 rfl (fun b9 => ?_); refine o_nil ?_; refine d_eff (k := 5) (n := 2) (m := 2) rfl (by kernel_rfl) rfl ?_; refine o_fn 0 (d := 11) rfl Try.call93 (CloneI_c w.gA w.gn w.gc w.gs hwG.here.down hwGl (by omega)) rfl ?_; rintro _ _ ⟨gB, ge, gE, rfl, hgo, rfl⟩; refine o_nil ?_; refine dv 10 rfl rfl (y_build (vs := [(0, .slice _ _ _), (1, .slice _ _ _), (2, .slice _ _ _)]) rfl (CopyW_k0 _ _ _ _ _ _ _ _ _)) ?_; refine d_eff (k := 12) (n := 3) (m := 2) rfl (by kernel_rfl) rfl ?_; refine o_stores (vs := [(.slice _ _ _), (.slice _ _ _), (.slice _ _ _)]) 6 rfl Try.sizeOf47 rfl rfl rfl (by simp [Value.oneCell']) (by simp) (o_nil ?_); refine d_nil (n := 3) (m := 2) (by kernel_rfl) rfl ?_; exact ⟨⟨kB, kE, kP, kx, gB, ge, gE, iB, iE, b9⟩, ⟨hko, hkx, hks, hgo, hout⟩, ⟨rfl, rfl, rfl, trivial⟩, (sub_picks [1, 1, 0, 2, 2, 0, 0] rfl)⟩
   ·refine o_alloc rfl Try.zeroValue47 rfl (fun b10 => ?_); refine o_nil ?_; refine d_eff2 (k := 5) (k' := 9) (n := 2) (m := 2) rfl rfl (by kernel_rfl) rfl ?_ ?_
    ·refine o_fn 0 (d := 11) rfl Try.call93 (CloneI_c w.gA w.gn w.gc w.gs hwG.here.down hwGl (by omega)) rfl ?_; rintro _ _ ⟨gB, ge, gE, rfl, hgo, rfl⟩; refine o_nil ?_; refine d_eff (k := 9) (n := 3) (m := 2) rfl (by kernel_rfl) rfl ?_; refine o_make (sz := 3) (bytes := 40) (n := w.iN) rfl Try.underlying45 Try.type136 rfl rfl rfl rfl rfl (by omega) (fun iB iE ho11 hiS => ?_); have hout : OS iB w.iN w.iN 136 3 (((List.replicate w.iN default)).flatMap encIt) iE := os_made_rec (enc := encIt) rfl rfl ho11
     clear ho11
     refine o_nil ?_; refine dv 10 rfl rfl (y_build (vs := [(0, .slice _ _ _), (1, .slice _ _ _), (2, .slice _ _ _)]) rfl (CopyW_k0 _ _ _ _ _ _ _ _ _)) ?_; refine d_eff (k := 12) (n := 3) (m := 2) rfl (by kernel_rfl) rfl ?_; refine o_stores (vs := [(.slice _ _ _), (.slice _ _ _), (.slice _ _ _)]) 5 rfl Try.sizeOf47 rfl rfl rfl (by simp [Value.oneCell']) (by simp) (o_nil ?_); refine d_nil (n := 3) (m := 2) (by kernel_rfl) rfl ?_; exact ⟨⟨kB, kE, kP, kx, gB, ge, gE, iB, iE, b10⟩, ⟨hko, hkx, hks, hgo, hout⟩, ⟨rfl, rfl, rfl, trivial⟩, (sub_picks [1, 1, 0, 3, 2, 0, 0] rfl)⟩
    ·refine o_make (sz := 3) (bytes := 40) (n := w.iN) rfl Try.underlying45 Try.type136 rfl rfl rfl rfl rfl (by omega) (fun iB iE ho12 hiS => ?_); have hout : OS iB w.iN w.iN 136 3 (((List.replicate w.iN default)).flatMap encIt) iE := os_made_rec (enc := encIt) rfl rfl ho12
     clear ho12
     refine o_nil ?_; refine d_eff (k := 5) (n := 2) (m := 2) rfl (by kernel_rfl) rfl ?_; refine o_fn 0 (d := 11) rfl Try.call93 (CloneI_c w.gA w.gn w.gc w.gs hwG.here.down hwGl (by omega)) rfl ?_; rintro _ _ ⟨gB, ge, gE, rfl, hgo, rfl⟩; refine o_nil ?_; refine dv 10 rfl rfl (y_build (vs := [(0, .slice _ _ _), (1, .slice _ _ _), (2, .slice _ _ _)]) rfl (CopyW_k0 _ _ _ _ _ _ _ _ _)) ?_; refine d_eff (k := 12) (n := 3) (m := 2) rfl (by kernel_rfl) rfl ?_; refine o_stores (vs := [(.slice _ _ _), (.slice _ _ _), (.slice _ _ _)]) 5 rfl Try.sizeOf47 rfl rfl rfl (by simp [Value.oneCell']) (by simp) (o_nil ?_); refine d_nil (n := 3) (m := 2) (by kernel_rfl) rfl ?_; exact ⟨⟨kB, kE, kP, kx, gB, ge, gE, iB, iE, b10⟩, ⟨hko, hkx, hks, hgo, hout⟩, ⟨rfl, rfl, rfl, trivial⟩, (sub_picks [1, 1, 0, 3, 2, 0, 0] rfl)⟩
  ·refine o_make (sz := 3) (bytes := 40) (n := w.iN) rfl Try.underlying45 Try.type136 rfl rfl rfl rfl rfl (by omega) (fun iB iE ho13 hiS => ?_); have hout : OS iB w.iN w.iN 136 3 (((List.replicate w.iN default)).flatMap encIt) iE := os_made_rec (enc := encIt) rfl rfl ho13
   clear ho13
   refine o_nil ?_; refine d_eff2 (k := 2) (k' := 11) (n := 0) (m := 2) rfl rfl (by kernel_rfl) rfl ?_ ?_
   ·refine o_fn 0 (d := 8) rfl Try.call151 (CopyK_c w.kA w.kn w.kc w.ks ⟨hwKl, hwKc, hwKb, hwK.here.down, fun x hx => (hwKK x hx).sub MSub.ext⟩) rfl ?_; rintro _ _ ⟨kB, kE, kP, kx, rfl, hko, hkx, hks, rfl⟩; refine o_nil ?_; refine d_eff2 (k := 5) (k' := 11) (n := 2) (m := 2) rfl rfl (by kernel_rfl) rfl ?_ ?_
    ·refine o_fn 0 (d := 11) rfl Try.call93 (CloneI_c w.gA w.gn w.gc w.gs hwG.here.down hwGl (by omega)) rfl ?_; rintro _ _ ⟨gB, ge, gE, rfl, hgo, rfl⟩; refine o_nil ?_; refine dv 10 rfl rfl (y_build (vs := [(0, .slice _ _ _), (1, .slice _ _ _), (2, .slice _ _ _)]) rfl (CopyW_k0 _ _ _ _ _ _ _ _ _)) ?_; refine d_eff (k := 11) (n := 3) (m := 2) rfl (by kernel_rfl) rfl ?_; refine o_alloc rfl Try.zeroValue47 rfl (fun b14 => ?_); refine o_nil ?_; refine d_eff (k := 12) (n := 3) (m := 2) rfl (by kernel_rfl) rfl ?_; refine o_stores (vs := [(.slice _ _ _), (.slice _ _ _), (.slice _ _ _)]) 6 rfl Try.sizeOf47 rfl rfl rfl (by simp [Value.oneCell']) (by simp) (o_nil ?_); refine d_nil (n := 3) (m := 2) (by kernel_rfl) rfl ?_; exact ⟨⟨kB, kE, kP, kx, gB, ge, gE, iB, iE, b14⟩, ⟨hko, hkx, hks, hgo, hout⟩, ⟨rfl, rfl, rfl, trivial⟩, (sub_picks [1, 1, 0, 2, 2, 0, 0] rfl)⟩
    ·refine o_alloc rfl Try.zeroValue47 rfl (fun b15 => ?_); refine o_nil ?_; refine d_eff (k := 5) (n := 2) (m := 2) rfl (by kernel_rfl) rfl ?_; refine o_fn 0 (d := 11) rfl Try.call93 (CloneI_c w.gA w.gn w.gc w.gs hwG.here.down hwGl (by omega)) rfl ?_; rintro _ _ ⟨gB, ge, gE, rfl, hgo, rfl⟩; refine o_nil ?_; refine dv 10 rfl rfl (y_build (vs := [(0, .slice _ _ _), (1, .slice _ _ _), (2, .slice _ _ _)]) rfl (CopyW_k0 _ _ _ _ _ _ _ _ _)) ?_; refine d_eff (k := 12) (n := 3) (m := 2) rfl (by kernel_rfl) rfl ?_; refine o_stores (vs := [(.slice _ _ _), (.slice _ _ _), (.slice _ _ _)]) 6 rfl Try.sizeOf47 rfl rfl rfl (by simp [Value.oneCell']) (by simp) (o_nil ?_); refine d_nil (n := 3) (m := 2) (by kernel_rfl) rfl ?_; exact ⟨⟨kB, kE, kP, kx, gB, ge, gE, iB, iE, b15⟩, ⟨hko, hkx, hks, hgo, hout⟩, ⟨rfl, rfl, rfl, trivial⟩, (sub_picks [1, 1, 0, 2, 2, 0, 0] rfl)⟩
   ·refine o_alloc rfl Try.zeroValue47 rfl (fun b16 => ?_); refine o_nil ?_; refine d_eff (k := 2) (n := 0) (m := 2) rfl (by kernel_rfl) rfl ?_; refine o_fn 0 (d := 8) rfl Try.call151 (CopyK_c w.kA w.kn w.kc w.ks ⟨hwKl, hwKc, hwKb, hwK.here.down, fun x hx => (hwKK x hx).sub MSub.ext⟩) rfl ?_; rintro _ _ ⟨kB, kE, kP, kx, rfl, hko, hkx, hks, rfl⟩; refine o_nil ?_; refine d_eff (k := 5) (n := 2) (m := 2) rfl (by kernel_rfl) rfl ?_; refine o_fn 0 (d := 11) rfl Try.call93 (CloneI_c w.gA w.gn w.gc w.gs hwG.here.down hwGl (by omega)) rfl ?_; rintro _ _ ⟨gB, ge, gE, rfl, hgo, rfl⟩; refine o_nil ?_; refine dv 10 rfl rfl (y_build (vs := [(0, .slice _ _ _), (1, .slice _ _ _), (2, .slice _ _ _)]) rfl (CopyW_k0 _ _ _ _ _ _ _ _ _)) ?_; refine d_eff (k := 12) (n := 3) (m := 2) rfl (by kernel_rfl) rfl ?_; refine o_stores (vs := [(.slice _ _ _), (.slice _ _ _), (.slice _ _ _)]) 6 rfl Try.sizeOf47 rfl rfl rfl (by simp [Value.oneCell']) (by simp) (o_nil ?_); refine d_nil (n := 3) (m := 2) (by kernel_rfl) rfl ?_; exact ⟨⟨kB, kE, kP, kx, gB, ge, gE, iB, iE, b16⟩, ⟨hko, hkx, hks, hgo, hout⟩, ⟨rfl, rfl, rfl, trivial⟩, (sub_picks [1, 1, 0, 2, 2, 0, 0] rfl)⟩
  ·refine o_alloc rfl Try.zeroValue47 rfl (fun b17 => ?_); refine o_nil ?_; refine d_eff2 (k := 2) (k' := 9) (n := 0) (m := 2) rfl rfl (by kernel_rfl) rfl ?_ ?_
   ·refine o_fn 0 (d := 8) rfl Try.call151 (CopyK_c w.kA w.kn w.kc w.ks ⟨hwKl, hwKc, hwKb, hwK.here.down, fun x hx => (hwKK x hx).sub MSub.ext⟩) rfl ?_; rintro _ _ ⟨kB, kE, kP, kx, rfl, hko, hkx, hks, rfl⟩; refine o_nil ?_; refine d_eff2 (k := 5) (k' := 9) (n := 2) (m := 2) rfl rfl (by kernel_rfl) rfl ?_ ?_
    ·refine o_fn 0 (d := 11) rfl Try.call93 (CloneI_c w.gA w.gn w.gc w.gs hwG.here.down hwGl (by omega)) rfl ?_; rintro _ _ ⟨gB, ge, gE, rfl, hgo, rfl⟩; refine o_nil ?_; refine d_eff (k := 9) (n := 3) (m := 2) rfl (by kernel_rfl) rfl ?_; refine o_make (sz := 3) (bytes := 40) (n := w.iN) rfl Try.underlying45 Try.type136 rfl rfl rfl rfl rfl (by omega) (fun iB iE ho18 hiS => ?_); have hout : OS iB w.iN w.iN 136 3 (((List.replicate w.iN default)).flatMap encIt) iE := os_made_rec (enc := encIt) rfl rfl ho18
     clear ho18
     refine o_nil ?_; refine dv 10 rfl rfl (y_build (vs := [(0, .slice _ _ _), (1, .slice _ _ _), (2, .slice _ _ _)]) rfl (CopyW_k0 _ _ _ _ _ _ _ _ _)) ?_; refine d_eff (k := 12) (n := 3) (m := 2) rfl (by kernel_rfl) rfl ?_; refine o_stores (vs := [(.slice _ _ _), (.slice _ _ _), (.slice _ _ _)]) 5 rfl Try.sizeOf47 rfl rfl rfl (by simp [Value.oneCell']) (by simp) (o_nil ?_); refine d_nil (n := 3) (m := 2) (by kernel_rfl) rfl ?_; exact ⟨⟨kB, kE, kP, kx, gB, ge, gE, iB, iE, b17⟩, ⟨hko, hkx, hks, hgo, hout⟩, ⟨rfl, rfl, rfl, trivial⟩, (sub_picks [1, 1, 0, 3, 2, 0, 0] rfl)⟩
    ·refine o_make (sz := 3) (bytes := 40) (n := w.iN) rfl Try.underlying45 Try.type136 rfl rfl rfl rfl rfl (by omega) (fun iB iE ho19 hiS => ?_); have hout : OS iB w.iN w.iN 136 3 (((List.replicate w.iN default)).flatMap encIt) iE := os_made_rec (enc := encIt) rfl rfl ho19
     clear ho19
     refine o_nil ?_; refine d_eff (k := 5) (n := 2) (m := 2) rfl (by kernel_rfl) rfl ?_; refine o_fn 0 (d := 11) rfl Try.call93 (CloneI_c w.gA w.gn w.gc w.gs hwG.here.down hwGl (by omega)) rfl ?_; rintro _ _ ⟨gB, ge, gE, rfl, hgo, rfl⟩; refine o_nil ?_; refine dv 10 rfl rfl (y_build (vs := [(0, .slice _ _ _), (1, .slice _ _ _), (2, .slice _ _ _)]) rfl (CopyW_k0 _ _ _ _ _ _ _ _ _)) ?_; refine d_eff (k := 12) (n := 3) (m := 2) rfl (by kernel_rfl) rfl ?_; refine o_stores (vs := [(.slice _ _ _), (.slice _ _ _), (.slice _ _ _)]) 5 rfl Try.sizeOf47 rfl rfl rfl (by simp [Value.oneCell']) (by simp) (o_nil ?_); refine d_nil (n := 3) (m := 2) (by kernel_rfl) rfl ?_; exact ⟨⟨kB, kE, kP, kx, gB, ge, gE, iB, iE, b17⟩, ⟨hko, hkx, hks, hgo, hout⟩, ⟨rfl, rfl, rfl, trivial⟩, (sub_picks [1, 1, 0, 3, 2, 0, 0] rfl)⟩
   ·refine o_make (sz := 3) (bytes := 40) (n := w.iN) rfl Try.underlying45 Try.type136 rfl rfl rfl rfl rfl (by omega) (fun iB iE ho20 hiS => ?_); have hout : OS iB w.iN w.iN 136 3 (((List.replicate w.iN default)).flatMap encIt) iE := os_made_rec (enc := encIt) rfl rfl ho20
    clear ho20
    refine o_nil ?_; refine d_eff (k := 2) (n := 0) (m := 2) rfl (by kernel_rfl) rfl ?_; refine o_fn 0 (d := 8) rfl Try.call151 (CopyK_c w.kA w.kn w.kc w.ks ⟨hwKl, hwKc, hwKb, hwK.here.down, fun x hx => (hwKK x hx).sub MSub.ext⟩) rfl ?_; rintro _ _ ⟨kB, kE, kP, kx, rfl, hko, hkx, hks, rfl⟩; refine o_nil ?_; refine d_eff (k := 5) (n := 2) (m := 2) rfl (by kernel_rfl) rfl ?_; refine o_fn 0 (d := 11) rfl Try.call93 (CloneI_c w.gA w.gn w.gc w.gs hwG.here.down hwGl (by omega)) rfl ?_; rintro _ _ ⟨gB, ge, gE, rfl, hgo, rfl⟩; refine o_nil ?_; refine dv 10 rfl rfl (y_build (vs := [(0, .slice _ _ _), (1, .slice _ _ _), (2, .slice _ _ _)]) rfl (CopyW_k0 _ _ _ _ _ _ _ _ _)) ?_; refine d_eff (k := 12) (n := 3) (m := 2) rfl (by kernel_rfl) rfl ?_; refine o_stores (vs := [(.slice _ _ _), (.slice _ _ _), (.slice _ _ _)]) 5 rfl Try.sizeOf47 rfl rfl rfl (by simp [Value.oneCell']) (by simp) (o_nil ?_); refine d_nil (n := 3) (m := 2) (by kernel_rfl) rfl ?_; exact ⟨⟨kB, kE, kP, kx, gB, ge, gE, iB, iE, b17⟩, ⟨hko, hkx, hks, hgo, hout⟩, ⟨rfl, rfl, rfl, trivial⟩, (sub_picks [1, 1, 0, 3, 2, 0, 0] rfl)⟩
 intro u _f hU; refine s_norm _ (by simp only [pull, picks, setG, List.cons_append, List.nil_append, List.append_nil, List.drop_succ_cons, List.drop_zero]; rfl) ?_; obtain ⟨hko, hkx, hks, hgo, hout⟩ := hU; refine s_seq ?_; refine s_seq (s_region ?_); refine ov (y_field0 Try.runUnderlying47 rfl Try.sizeOf45 rfl rfl) ?_; refine ov (y_load Try.isAgg45 rfl (cel_own 5 rfl rfl)) ?_; refine ov (y_len Try.runUnderlying45 rfl) ?_; refine ov (y_move (v := .int _ _) rfl) (o_nil ?_); refine s_block ?_; refine s_group ?_; refine s_group ?_; refine s_loopK (γ := LI3) [(2, .pointer _), (3, .pointer _), (18, .slice _ _ _), (19, .int _ _)] [_, _, _, _, _] (fun g => [(20, .int .i64 g.k)]) (fun g => [g.E, g.CE, g.P]) (fun g => g.k ≤ w.iN ∧ OS u.iB w.iN w.iN 136 3 ((g.xs).flatMap encIt) g.E ∧ MCs 155 g.xs g.CE ∧ (∀ x ∈ g.xs, ∀ y ∈ x.cs, COK (inG g.P) y) ∧ (g.xs.take g.k).map IR.d = (w.its.take g.k).map IR.d ∧ ∀ j, g.k ≤ j → j < w.iN → g.xs.getD j default = default) (fun g => w.iN - g.k) (LI3.mk 0 (List.replicate w.iN default) u.iE [] []) ⟨rfl, rfl, rfl, rfl, rfl, trivial⟩ (sub_picks [3, 6, 6, 0, 0, 0, 0, 1] rfl) ?_ ?_
 ·exact ⟨Nat.zero_le _, hout, MCs.rep _ _, all_rep (fun y hy => absurd hy List.not_mem_nil), rfl, fun j _ hj => by simp [List.getD_eq_getElem?_getD, hj]⟩
 intro g _f hI; refine s_norm _ (by simp only [pull, picks, setG, List.cons_append, List.nil_append, List.append_nil, List.drop_succ_cons, List.drop_zero]; rfl) ?_; obtain ⟨hgk, hxo, hmc, hxc, hxt, hrest⟩ := hI; have hxl : g.xs.length = w.iN := by have := hxo.len; rw [flat_len encIt_len] at this; omega
 refine s_seq (s_region ?_); refine ov (y_lss rfl rfl) (o_nil ?_); refine s_seq ?_; refine s_if rfl (fun h21 => ?_) (fun h22 => ?_)
 ·refine s_skip ?_; refine s_seq ?_; refine s_block ?_; refine s_seq (s_region ?_); refine ov (y_move (v := .int _ _) rfl) ?_; refine ov (y_indexAddr Try.runUnderlying45 Try.sizeOf136 (some_at (sz := 2) encIt_len (i := 0) hwI (by omega)) rfl rfl (by omega)) ?_; refine ov (y_loads (cs := [_, _, _]) Try.isAgg136 Try.sizeOf136 rfl (by unfold idx; rw [Option.isSome_map]; exact some_at (sz := 2) encIt_len (i := 0) hwI (by omega)) rfl (cels_at (sz := 3) encIt_len hwI.here (by omega))) ?_; refine o_alloc rfl Try.zeroValue136 rfl (fun b23 => ?_); refine ov (y_assign (v := .int _ _) rfl) ?_; refine o_stores (vs := [(.int _ _), (.int _ _), (.slice _ _ _)]) 8 rfl Try.sizeOf136 rfl rfl rfl (by simp [Value.oneCell']) (by simp) (o_nil ?_); refine s_drawn 1 (by kernel_rfl) ?_; have hii := hwII _ (getD_mem' (show g.k < w.its.length by omega) : (w.its.getD ((g.k : Nat) : Int).toNat default) ∈ w.its); refine dv 0 rfl rfl (y_field0 Try.runUnderlying47 rfl Try.sizeOf45 rfl rfl) ?_; refine dv 1 rfl rfl (y_load Try.isAgg45 rfl (cel_own 5 rfl rfl)) ?_; refine dv 2 rfl rfl (y_move (v := .int _ _) rfl) ?_; refine dv 3 rfl rfl (y_field0 Try.runUnderlying136 rfl Try.sizeOf117 rfl rfl) ?_; refine dv 4 rfl rfl (y_loads (cs := [_, _]) Try.isAgg117 Try.sizeOf117 rfl rfl rfl (cels_own 7 rfl rfl)) ?_; refine dv 5 rfl rfl (y_field0 Try.runUnderlying136 rfl Try.sizeOf33 rfl rfl) ?_; refine dv 6 rfl rfl (y_load Try.isAgg33 rfl (cel_own 7 rfl rfl)) ?_; refine d_eff (k := 7) (n := 1) (m := 8) rfl (by kernel_rfl) rfl ?_; refine o_fn 0 (d := 32) rfl Try.call152 (CopyC_c (w.its.getD ((g.k : Nat) : Int).toNat default).A (w.its.getD ((g.k : Nat) : Int).toNat default).n (w.its.getD ((g.k : Nat) : Int).toNat default).c (w.its.getD ((g.k : Nat) : Int).toNat default).cs (IOK.sub hii MSub.ext)) rfl ?_; rintro _ _ ⟨jB, jE, jP, jx, rfl, hjo, hjx, hjd, rfl⟩; refine o_nil ?_; refine dv 8 rfl rfl (y_build (vs := [(0, .agg #[.int _ _, .int _ _]), (1, .slice _ _ _)]) rfl (CopyW_k1 _ _ _ _ _)) ?_; refine dv 9 rfl rfl (y_indexAddr Try.runUnderlying45 Try.sizeOf136 (hxo.some_of (by omega)) rfl rfl (by omega)) ?_; refine d_eff (k := 10) (n := 3) (m := 8) rfl (by kernel_rfl) rfl ?_; refine o_store_os (vs := [(.int _ _), (.int _ _), (.slice _ _ _)]) 2 rfl hxo Try.sizeOf136 rfl rfl rfl (by simp [Value.oneCell']) (by simp) (by rw [flat_len encIt_len]; simp; omega) (fun E24 ho25 => ?_); have ho26 : OS u.iB w.iN w.iN 136 3 ((g.xs.set ((g.k : Nat) : Int).toNat (IR.mk (w.its.getD ((g.k : Nat) : Int).toNat default).e (w.its.getD ((g.k : Nat) : Int).toNat default).g jB (w.its.getD ((g.k : Nat) : Int).toNat default).n (w.its.getD ((g.k : Nat) : Int).toNat default).n jx)).flatMap encIt) E24 := os_set encIt_len ho25 (by omega)
  clear ho25
  refine o_nil ?_; refine d_nil (n := 3) (m := 8) (by kernel_rfl) rfl ?_; refine s_forget [(2, .pointer _), (3, .pointer _), (18, .slice _ _ _), (19, .int _ _), (20, .int _ _)] ⟨rfl, rfl, rfl, rfl, rfl, trivial⟩ (fun _f => ?_); refine s_region ?_; refine o_pull 3 ?_; refine o_pull 1 ?_; refine o_fuse ?_; refine o_pull 3 ?_; refine o_pull 2 ?_; refine o_fuse ?_; refine ov (y_add rfl rfl (by simp only [inK]; omega)) ?_; refine ov (y_move (v := .int _ _) rfl) (o_nil ?_); exact ⟨LI3.mk (g.k + 1) (g.xs.set ((g.k : Nat) : Int).toNat (IR.mk (w.its.getD ((g.k : Nat) : Int).toNat default).e (w.its.getD ((g.k : Nat) : Int).toNat default).g jB (w.its.getD ((g.k : Nat) : Int).toNat default).n (w.its.getD ((g.k : Nat) : Int).toNat default).n jx)) E24 (jE ++ g.CE) (jP ++ g.P), (by first | omega | (dsimp only; omega)), ⟨by dsimp only; omega, ho26, hmc.add (k := g.k) (by omega) (by rw [hrest g.k (Nat.le_refl _) (by omega)]; rfl) hjo, all_set (fun x hx y hy => (hxc x hx y hy).sub inG_right) (fun y hy => (hjx y hy).sub inG_left), map_take_set (by omega) (by omega) hxt (by unfold IR.d; dsimp only; rw [hjd]; rfl), fun j hj1 hj2 => by rw [show ((g.k : Nat) : Int).toNat = g.k from rfl, getD_set' (by omega), if_neg (by dsimp only at hj1; omega)]; exact hrest j (by dsimp only at hj1; omega) hj2⟩, ⟨(congrArg (Value.int .i64) (by (try dsimp only); omega)), rfl, rfl, rfl, rfl, trivial⟩, (sub_picks [2, 1, 0, 0, 0, 0, 0, 0] rfl)⟩
 ·refine s_exit ?_; refine s_seq (s_region ?_); refine ov (y_loads (cs := [_, _, _]) Try.isAgg47 Try.sizeOf47 rfl rfl rfl (cels_own 6 rfl rfl)) ?_; refine o_stores (vs := [(.slice _ _ _), (.slice _ _ _), (.slice _ _ _)]) 7 rfl Try.sizeOf47 rfl rfl rfl (by simp [Value.oneCell']) (by simp) (o_nil ?_); refine s_ret ?_; have hgn : g.k = w.iN := by omega
  rw [hgn, List.take_of_length_le (by omega), List.take_of_length_le (by omega)] at hxt; exact ⟨_, [u.kE, u.kP, u.gE, g.E, g.CE, g.P], resv1 rfl (RV.cells (cs := [_, _, _]) rfl Try.isAgg47 Try.sizeOf47 rfl rfl (cels_own 7 rfl rfl)), ⟨⟨u.kB, w.kn, w.kn, u.kx, u.gB, w.gn, u.ge, w.gs, u.iB, w.iN, w.iN, g.xs⟩, _, _, _, _, _, _, rfl, hko, hkx, hgo, hxo, hmc, hxc, hks, rfl, hxt, rfl⟩, sub_picks [3, 3, 3, 0, 0, 0] rfl⟩

end Go.Proofs.Ytacmbiohjiogiaa.K
end
section
set_option linter.unusedVariables false
set_option linter.unusedSimpArgs false
set_option maxRecDepth 100000
namespace Go.Proofs.Ytacmbiohjiogiaa.K
open Go.RowKit

theorem ba_toList {a b : ByteArray} : a.toList = b.toList ↔ a = b := by
 have h1 := bytes_beq a b; rw [beq_toListBytes] at h1
 constructor
 ·intro h; rw [h] at h1; simpa using h1
 ·intro h; rw [h]
/-- Element by element. -/
def All2 {α β : Type} [Inhabited α] [Inhabited β] (p : α → β → Prop) (xs : List α) (ys : List β) : Prop := xs.length = ys.length ∧ ∀ j, j < xs.length → p (xs.getD j default) (ys.getD j default)
instance {α β : Type} [Inhabited α] [Inhabited β] (p : α → β → Prop) [∀ x y, Decidable (p x y)] (xs : List α) (ys : List β) : Decidable (All2 p xs ys) := by unfold All2; infer_instance
theorem all2_map {α β γ : Type} [Inhabited α] [Inhabited β] {f : α → γ} {g : β → γ} {xs : List α} {ys : List β} : All2 (fun x y => f x = g y) xs ys ↔ xs.map f = ys.map g := by
 constructor
 ·rintro ⟨hl, h⟩
  apply List.ext_getElem (by simpa using hl)
  intro j h1 h2; have h3 : j < xs.length := by simpa using h1
  have h4 : j < ys.length := by omega
  have := h j h3
  simpa [List.getD_eq_getElem?_getD, h3, h4] using this
 ·intro h; have hl : xs.length = ys.length := by have := congrArg List.length h; simpa using this
  refine ⟨hl, fun j hj => ?_⟩; have h4 : j < ys.length := by omega
  have h1 : (xs.map f)[j]'(by simpa using hj) = (ys.map g)[j]'(by simpa using h4) := by simp only [h]
  simp only [List.getElem_map] at h1
  simpa [List.getD_eq_getElem?_getD, hj, h4] using h1
theorem all2_eq {α : Type} [Inhabited α] {xs ys : List α} : All2 (fun x y => x = y) xs ys ↔ xs = ys := by
 have := all2_map (f := fun x : α => x) (g := fun x : α => x) (xs := xs) (ys := ys)
 simpa using this
/-- The first place of an element with a property, or -1. -/
def IdxOK {α : Type} [Inhabited α] (p : α → Prop) (xs : List α) (k : Int) : Prop := (k = -1 ∧ ∀ j, j < xs.length → ¬ p (xs.getD j default)) ∨ (∃ j : Nat, k = j ∧ j < xs.length ∧ p (xs.getD j default) ∧ ∀ i, i < j → ¬ p (xs.getD i default))

instance : DecidableEq FR := fun a b => if h : a.name = b.name ∧ a.bits = b.bits ∧ a.low = b.low then isTrue (by cases a; cases b; simp_all) else isFalse (fun e => h (by subst e; exact ⟨rfl, rfl, rfl⟩))

theorem run_eql_ent (a0 b0 : Int) (a1 b1 : Int) (w : World) : (binOp .eql 117 (.agg #[.int .i64 a0, .int .i64 a1]) (.agg #[.int .i64 b0, .int .i64 b1])).run Try.prog w = .ok (.bool (decide (a0 = b0 ∧ a1 = b1))) w := by
 simp [go_sem]
 by_cases h0 : a0 = b0 <;> by_cases h1 : a1 = b1 <;> simp [h0, h1]
theorem y_eql_ent {f : Frm} {V : Mem} {L : List Grp} {d : Option Tmp} {ty : TypeId} {ps : String} {af : Array Edge} {g : Option (Nat × Bool)} {x y : Operand} {yt : TypeId} {a0 b0 : Int} {a1 b1 : Int} (hx : evF f x = .agg #[.int .i64 a0, .int .i64 a1]) (hy : evF f y = .agg #[.int .i64 b0, .int .i64 b1]) :
  Yld Try.prog f V L ⟨d, .binOp .eql 117 x y yt, ty, ps, af, g⟩ (.bool (decide (a0 = b0 ∧ a1 = b1))) := fun _ w _ => by
 simp only [execOp, hx, hy, Sem.run_bind, eqGuard_agg (P := Try.prog) (t := 117) (by kernel_rfl), Result.andThen_ok, run_eql_ent]
 rfl

theorem run_neq_field (a0 b0 : ByteArray) (a1 b1 : Int) (a2 b2 : Int) (w : World) : (binOp .neq 61 (.agg #[.string a0, .int .i64 a1, .int .i64 a2]) (.agg #[.string b0, .int .i64 b1, .int .i64 b2])).run Try.prog w = .ok (.bool (decide (¬ (a0 = b0 ∧ a1 = b1 ∧ a2 = b2)))) w := by
 simp [go_sem, ba_toList]
 by_cases h0 : a0 = b0 <;> by_cases h1 : a1 = b1 <;> by_cases h2 : a2 = b2 <;> simp [h0, h1, h2, ba_toList]
theorem y_neq_field {f : Frm} {V : Mem} {L : List Grp} {d : Option Tmp} {ty : TypeId} {ps : String} {af : Array Edge} {g : Option (Nat × Bool)} {x y : Operand} {yt : TypeId} {a0 b0 : ByteArray} {a1 b1 : Int} {a2 b2 : Int} (hx : evF f x = .agg #[.string a0, .int .i64 a1, .int .i64 a2]) (hy : evF f y = .agg #[.string b0, .int .i64 b1, .int .i64 b2]) :
  Yld Try.prog f V L ⟨d, .binOp .neq 61 x y yt, ty, ps, af, g⟩ (.bool (decide (¬ (a0 = b0 ∧ a1 = b1 ∧ a2 = b2)))) := fun _ w _ => by
 simp only [execOp, hx, hy, Sem.run_bind, eqGuard_agg (P := Try.prog) (t := 61) (by kernel_rfl), Result.andThen_ok, run_neq_field]
 rfl

theorem EqualI_c {V : Mem} (A : Option Addr) (n c : Nat) (xs : List Int) (h : Cels V [] A (xs.map (.int .i64))) (hn : xs.length = n) (B : Option Addr) (m d : Nat) (ys : List Int) (h' : Cels V [] B (ys.map (.int .i64))) (hm : ys.length = m) (hb : n ≤ 140737488355328) : CallS Try.prog 21 [.slice A n c, .slice B m d].toArray V [] (fun r L' => r = .bool (decide (xs = ys)) ∧ L' = []) := by
 refine callS Try.func21 rfl rfl (fun w0 => ?_); refine s_seq (s_region ?_); refine ov (y_assign (v := .bool _) rfl) (o_nil ?_); refine s_seq ?_; refine s_seq (s_region ?_); refine ov (y_move (v := .slice _ _ _) rfl) ?_; refine ov (y_len Try.runUnderlying22 rfl) ?_; refine ov (y_move (v := .slice _ _ _) rfl) ?_; refine ov (y_len Try.runUnderlying22 rfl) ?_; refine ov (y_neq rfl rfl) (o_nil ?_); refine s_if rfl (fun h1 => ?_) (fun h2 => ?_)
 ·refine s_seq (s_region ?_); refine ov (y_assign (v := .bool _) rfl) (o_nil ?_); refine s_ret ?_; exact ⟨_, [], res1 rfl rfl, ⟨congrArg Value.bool (decide_eq_false (fun hh => by have := congrArg List.length hh; omega)).symm, rfl⟩, sub_picks [] rfl⟩
 ·refine s_skip ?_; refine s_seq ?_; refine s_seq (s_region ?_); refine ov (y_move (v := .slice _ _ _) rfl) ?_; refine ov (y_len Try.runUnderlying22 rfl) ?_; refine ov (y_move (v := .int _ _) rfl) (o_nil ?_); refine s_block ?_; refine s_loopK (γ := Nat) [(0, .slice _ _ _), (1, .slice _ _ _), (12, .int _ _)] [] (fun g => [(13, .int .i64 g)]) (fun g => []) (fun g => g ≤ n ∧ ∀ j, j < g → xs.getD j 0 = ys.getD j 0) (fun g => n - g) (0) ⟨rfl, rfl, rfl, rfl, trivial⟩ (sub_picks [] rfl) ?_ ?_
  ·exact ⟨Nat.zero_le _, fun j hj => absurd hj (Nat.not_lt_zero j)⟩
  intro g _f hI; obtain ⟨hg, hall⟩ := hI; refine s_seq (s_region ?_); refine ov (y_lss rfl rfl) (o_nil ?_); refine s_seq ?_; refine s_if rfl (fun h3 => ?_) (fun h4 => ?_)
  ·refine s_skip ?_; refine s_seq ?_; refine s_block ?_; refine s_seq (s_region ?_); refine ov (y_move (v := .int _ _) rfl) ?_; refine ov (y_assign (v := .int _ _) rfl) (o_nil ?_); refine s_seq ?_; refine s_quiet (by kernel_rfl) (by kernel_rfl) ?_; refine q_val rfl rfl rfl (y_move (v := .slice _ _ _) rfl) ?_; refine q_val rfl rfl rfl (y_move (v := .int _ _) rfl) ?_; refine q_val rfl rfl rfl (y_index1 Try.runUnderlying22 Try.sizeOf3 (some_int (i := 0) h (by omega)) rfl rfl (by omega)) ?_; refine q_val rfl rfl rfl (y_load Try.isAgg3 rfl (cel_int h.here (by omega))) ?_; refine q_val rfl rfl rfl (y_move (v := .slice _ _ _) rfl) ?_; refine q_val rfl rfl rfl (y_move (v := .int _ _) rfl) ?_; refine q_val rfl rfl rfl (y_index1 Try.runUnderlying22 Try.sizeOf3 (some_int (i := 0) h' (by omega)) rfl rfl (by omega)) ?_; refine q_val rfl rfl rfl (y_load Try.isAgg3 rfl (cel_int h'.here (by omega))) ?_; refine q_val rfl rfl rfl (y_neq rfl rfl) ?_; refine q_nil ?_; refine s_forget [(0, .slice _ _ _), (1, .slice _ _ _), (12, .int _ _), (13, .int _ _), (24, .bool _)] ⟨rfl, rfl, rfl, rfl, rfl, trivial⟩ (fun _f => ?_); refine s_if rfl (fun h5 => ?_) (fun h6 => ?_)
   ·have hne := h5; refine s_seq (s_region ?_); refine ov (y_assign (v := .bool _) rfl) (o_nil ?_); refine s_ret ?_; exact ⟨_, [], res1 rfl rfl, ⟨congrArg Value.bool (decide_eq_false (fun hh => hne (by rw [hh]))).symm, rfl⟩, sub_picks [] rfl⟩
   ·have heq := Decidable.not_not.1 h6; refine s_skip ?_; refine s_region ?_; refine ov (y_add rfl rfl (by simp only [inK]; omega)) ?_; refine ov (y_move (v := .int _ _) rfl) (o_nil ?_); exact ⟨g + 1, (by first | omega | (dsimp only; omega)), ⟨by omega, all_next hall heq⟩, ⟨(congrArg (Value.int .i64) (by omega)), rfl, rfl, rfl, trivial⟩, (sub_picks [] rfl)⟩
  ·refine s_exit ?_; refine s_seq (s_region ?_); refine ov (y_assign (v := .bool _) rfl) (o_nil ?_); refine s_ret ?_; exact ⟨_, [], res1 rfl rfl, ⟨congrArg Value.bool (decide_eq_true (ext_getD (by omega) (fun j hj => hall j (by omega)))).symm, rfl⟩, sub_picks [] rfl⟩

theorem EqualFC_c {V : Mem} (A : Option Addr) (n c : Nat) (xs : List CR) (h : Cels V [] A (xs.flatMap encC)) (hn : xs.length = n) (hbn : n ≤ 140737488355328) (hX : ∀ x ∈ xs, COK V x) (B : Option Addr) (m d : Nat) (ys : List CR) (h' : Cels V [] B (ys.flatMap encC)) (hm : ys.length = m) (hbm : m ≤ 140737488355328) (hY : ∀ x ∈ ys, COK V x) (fid : FuncId) (cap : List Value) (hcall : ∀ args w, (callFunc fid args).run Try.prog w = .ok (.enter fid args) w) (p : CR → CR → Prop) [∀ x y, Decidable (p x y)] (hf : ∀ (V' : Mem) (x y : CR) (hx : COK V' x) (hy : COK V' y), CallS Try.prog fid (([.agg #[.int .i64 x.kind, .slice x.A x.n x.c], .agg #[.int .i64 y.kind, .slice y.A y.n y.c]] : List Value) ++ cap).toArray V' [] (fun r L' => r = .bool (decide (p x y)) ∧ L' = [])) : CallS Try.prog 129 [.slice A n c, .slice B m d, .func (.func fid) #[] cap.toArray].toArray V [] (fun r L' => r = .bool (decide (All2 p xs ys)) ∧ L' = []) := by
 refine callS Try.func129 rfl rfl (fun w0 => ?_); refine s_seq (s_region ?_); refine ov (y_assign (v := .bool _) rfl) (o_nil ?_); refine s_seq ?_; refine s_seq (s_region ?_); refine ov (y_move (v := .slice _ _ _) rfl) ?_; refine ov (y_len Try.runUnderlying33 rfl) ?_; refine ov (y_move (v := .slice _ _ _) rfl) ?_; refine ov (y_len Try.runUnderlying33 rfl) ?_; refine ov (y_neq rfl rfl) (o_nil ?_); refine s_if rfl (fun h1 => ?_) (fun h2 => ?_)
 ·refine s_seq (s_region ?_); refine ov (y_assign (v := .bool _) rfl) (o_nil ?_); refine s_ret ?_; exact ⟨_, [], res1 rfl rfl, ⟨congrArg Value.bool (decide_eq_false (fun hh => by have := hh.1; omega)).symm, rfl⟩, sub_picks [] rfl⟩
 ·refine s_skip ?_; refine s_seq ?_; refine s_seq (s_region ?_); refine ov (y_move (v := .slice _ _ _) rfl) ?_; refine ov (y_len Try.runUnderlying33 rfl) ?_; refine ov (y_move (v := .int _ _) rfl) (o_nil ?_); refine s_block ?_; refine s_loopK (γ := Nat) [(1, .slice _ _ _), (2, .func _ _ _), (15, .slice _ _ _), (16, .int _ _)] [] (fun g => [(17, .int .i64 g)]) (fun g => []) (fun g => g ≤ n ∧ ∀ j, j < g → p (xs.getD j default) (ys.getD j default)) (fun g => n - g) (0) ⟨rfl, rfl, rfl, rfl, rfl, trivial⟩ (sub_picks [] rfl) ?_ ?_
  ·exact ⟨Nat.zero_le _, fun j hj => absurd hj (Nat.not_lt_zero j)⟩
  intro g _f hI; obtain ⟨hg, hall⟩ := hI; refine s_seq (s_region ?_); refine ov (y_lss rfl rfl) (o_nil ?_); refine s_seq ?_; refine s_if rfl (fun h3 => ?_) (fun h4 => ?_)
  ·refine s_skip ?_; refine s_seq ?_; refine s_block ?_; refine s_seq (s_region ?_); refine ov (y_move (v := .int _ _) rfl) ?_; refine ov (y_indexAddr Try.runUnderlying33 Try.sizeOf155 (some_at (sz := 1) encC_len (i := 0) h (by omega)) rfl rfl (by omega)) ?_; refine ov (y_loads (cs := [_, _]) Try.isAgg155 Try.sizeOf155 rfl (by unfold idx; rw [Option.isSome_map]; exact some_at (sz := 1) encC_len (i := 0) h (by omega)) rfl (cels_at (sz := 2) encC_len h.here (by omega))) ?_; refine o_alloc rfl Try.zeroValue155 rfl (fun b5 => ?_); refine ov (y_assign (v := .int _ _) rfl) ?_; refine o_stores (vs := [(.int _ _), (.slice _ _ _)]) 0 rfl Try.sizeOf155 rfl rfl rfl (by simp [Value.oneCell']) (by simp) (o_nil ?_); refine s_seq (s_region ?_); refine ov (y_move (v := .slice _ _ _) rfl) ?_; refine ov (y_move (v := .int _ _) rfl) ?_; refine ov (y_indexAddr Try.runUnderlying33 Try.sizeOf155 (some_at (sz := 1) encC_len (i := 0) h' (by omega)) rfl rfl (by omega)) ?_; refine ov (y_loads (cs := [_, _]) Try.isAgg155 Try.sizeOf155 rfl (by unfold idx; rw [Option.isSome_map]; exact some_at (sz := 1) encC_len (i := 0) h' (by omega)) rfl (cels_at (sz := 2) encC_len h'.here (by omega))) ?_; refine o_alloc rfl Try.zeroValue155 rfl (fun b6 => ?_); refine o_stores (vs := [(.int _ _), (.slice _ _ _)]) 1 rfl Try.sizeOf155 rfl rfl rfl (by simp [Value.oneCell']) (by simp) (o_nil ?_); refine s_norm [[(_, .cells [(.int _ _), (.slice _ _ _)].toArray 155 (0, 0))], [(_, .cells [(.int _ _), (.slice _ _ _)].toArray 155 (0, 0))]] rfl ?_; refine s_forget [(1, .slice _ _ _), (2, .func _ _ _), (8, .pointer _), (9, .pointer _), (15, .slice _ _ _), (16, .int _ _), (17, .int _ _)] ⟨rfl, rfl, rfl, rfl, rfl, rfl, rfl, trivial⟩ (fun _f => ?_); refine s_seq (s_region ?_); have hx := hX _ (getD_mem' (show g < xs.length by omega) : (xs.getD ((g : Nat) : Int).toNat default) ∈ xs); have hy := hY _ (getD_mem' (show g < ys.length by omega) : (ys.getD ((g : Nat) : Int).toNat default) ∈ ys); refine ov (y_move (v := .func _ _ _) rfl) ?_; refine ov (y_loads (cs := [_, _]) Try.isAgg155 Try.sizeOf155 rfl rfl rfl (cels_own 0 rfl rfl)) ?_; refine ov (y_loads (cs := [_, _]) Try.isAgg155 Try.sizeOf155 rfl rfl rfl (cels_own 1 rfl rfl)) ?_; refine o_fnv' 0 (d := 29) rfl hcall rfl rfl rfl (hf _ (xs.getD ((g : Nat) : Int).toNat default) (ys.getD ((g : Nat) : Int).toNat default) (hx.sub MSub.ext) (hy.sub MSub.ext)) ?_; rintro _ _ ⟨rfl, rfl⟩; refine ov (y_not rfl) (o_nil ?_); refine s_if rfl (fun h7 => ?_) (fun h8 => ?_)
   ·have hne := h7; refine s_seq (s_region ?_); refine ov (y_assign (v := .bool _) rfl) (o_nil ?_); refine s_ret ?_; exact ⟨_, [], res1 rfl rfl, ⟨congrArg Value.bool (decide_eq_false (fun hh => hne (hh.2 g (by omega)))).symm, rfl⟩, sub_picks [] rfl⟩
   ·have heq := Decidable.not_not.1 h8; refine s_skip ?_; refine s_region ?_; refine ov (y_add rfl rfl (by simp only [inK]; omega)) ?_; refine ov (y_move (v := .int _ _) rfl) (o_nil ?_); exact ⟨g + 1, (by first | omega | (dsimp only; omega)), ⟨by omega, all_next hall heq⟩, ⟨(congrArg (Value.int .i64) (by omega)), rfl, rfl, rfl, rfl, trivial⟩, (sub_picks [] rfl)⟩
  ·refine s_exit ?_; refine s_seq (s_region ?_); refine ov (y_assign (v := .bool _) rfl) (o_nil ?_); refine s_ret ?_; exact ⟨_, [], res1 rfl rfl, ⟨congrArg Value.bool (decide_eq_true (⟨by omega, fun j hj => hall j (by omega)⟩)).symm, rfl⟩, sub_picks [] rfl⟩

theorem EqualFI_c {V : Mem} (A : Option Addr) (n c : Nat) (xs : List IR) (h : Cels V [] A (xs.flatMap encIt)) (hn : xs.length = n) (hbn : n ≤ 140737488355328) (hX : ∀ x ∈ xs, IOK V x) (B : Option Addr) (m d : Nat) (ys : List IR) (h' : Cels V [] B (ys.flatMap encIt)) (hm : ys.length = m) (hbm : m ≤ 140737488355328) (hY : ∀ x ∈ ys, IOK V x) (fid : FuncId) (cap : List Value) (hcall : ∀ args w, (callFunc fid args).run Try.prog w = .ok (.enter fid args) w) (p : IR → IR → Prop) [∀ x y, Decidable (p x y)] (hf : ∀ (V' : Mem) (x y : IR) (hx : IOK V' x) (hy : IOK V' y), CallS Try.prog fid (([.agg #[.int .i64 x.e, .int .i64 x.g, .slice x.A x.n x.c], .agg #[.int .i64 y.e, .int .i64 y.g, .slice y.A y.n y.c]] : List Value) ++ cap).toArray V' [] (fun r L' => r = .bool (decide (p x y)) ∧ L' = [])) : CallS Try.prog 106 [.slice A n c, .slice B m d, .func (.func fid) #[] cap.toArray].toArray V [] (fun r L' => r = .bool (decide (All2 p xs ys)) ∧ L' = []) := by
 refine callS Try.func106 rfl rfl (fun w0 => ?_); refine s_seq (s_region ?_); refine ov (y_assign (v := .bool _) rfl) (o_nil ?_); refine s_seq ?_; refine s_seq (s_region ?_); refine ov (y_move (v := .slice _ _ _) rfl) ?_; refine ov (y_len Try.runUnderlying45 rfl) ?_; refine ov (y_move (v := .slice _ _ _) rfl) ?_; refine ov (y_len Try.runUnderlying45 rfl) ?_; refine ov (y_neq rfl rfl) (o_nil ?_); refine s_if rfl (fun h1 => ?_) (fun h2 => ?_)
 ·refine s_seq (s_region ?_); refine ov (y_assign (v := .bool _) rfl) (o_nil ?_); refine s_ret ?_; exact ⟨_, [], res1 rfl rfl, ⟨congrArg Value.bool (decide_eq_false (fun hh => by have := hh.1; omega)).symm, rfl⟩, sub_picks [] rfl⟩
 ·refine s_skip ?_; refine s_seq ?_; refine s_seq (s_region ?_); refine ov (y_move (v := .slice _ _ _) rfl) ?_; refine ov (y_len Try.runUnderlying45 rfl) ?_; refine ov (y_move (v := .int _ _) rfl) (o_nil ?_); refine s_block ?_; refine s_loopK (γ := Nat) [(1, .slice _ _ _), (2, .func _ _ _), (15, .slice _ _ _), (16, .int _ _)] [] (fun g => [(17, .int .i64 g)]) (fun g => []) (fun g => g ≤ n ∧ ∀ j, j < g → p (xs.getD j default) (ys.getD j default)) (fun g => n - g) (0) ⟨rfl, rfl, rfl, rfl, rfl, trivial⟩ (sub_picks [] rfl) ?_ ?_
  ·exact ⟨Nat.zero_le _, fun j hj => absurd hj (Nat.not_lt_zero j)⟩
  intro g _f hI; obtain ⟨hg, hall⟩ := hI; refine s_seq (s_region ?_); refine ov (y_lss rfl rfl) (o_nil ?_); refine s_seq ?_; refine s_if rfl (fun h3 => ?_) (fun h4 => ?_)
  ·refine s_skip ?_; refine s_seq ?_; refine s_block ?_; refine s_seq (s_region ?_); refine ov (y_move (v := .int _ _) rfl) ?_; refine ov (y_indexAddr Try.runUnderlying45 Try.sizeOf136 (some_at (sz := 2) encIt_len (i := 0) h (by omega)) rfl rfl (by omega)) ?_; refine ov (y_loads (cs := [_, _, _]) Try.isAgg136 Try.sizeOf136 rfl (by unfold idx; rw [Option.isSome_map]; exact some_at (sz := 2) encIt_len (i := 0) h (by omega)) rfl (cels_at (sz := 3) encIt_len h.here (by omega))) ?_; refine o_alloc rfl Try.zeroValue136 rfl (fun b5 => ?_); refine ov (y_assign (v := .int _ _) rfl) ?_; refine o_stores (vs := [(.int _ _), (.int _ _), (.slice _ _ _)]) 0 rfl Try.sizeOf136 rfl rfl rfl (by simp [Value.oneCell']) (by simp) (o_nil ?_); refine s_seq (s_region ?_); refine ov (y_move (v := .slice _ _ _) rfl) ?_; refine ov (y_move (v := .int _ _) rfl) ?_; refine ov (y_indexAddr Try.runUnderlying45 Try.sizeOf136 (some_at (sz := 2) encIt_len (i := 0) h' (by omega)) rfl rfl (by omega)) ?_; refine ov (y_loads (cs := [_, _, _]) Try.isAgg136 Try.sizeOf136 rfl (by unfold idx; rw [Option.isSome_map]; exact some_at (sz := 2) encIt_len (i := 0) h' (by omega)) rfl (cels_at (sz := 3) encIt_len h'.here (by omega))) ?_; refine o_alloc rfl Try.zeroValue136 rfl (fun b6 => ?_); refine o_stores (vs := [(.int _ _), (.int _ _), (.slice _ _ _)]) 1 rfl Try.sizeOf136 rfl rfl rfl (by simp [Value.oneCell']) (by simp) (o_nil ?_); refine s_norm [[(_, .cells [(.int _ _), (.int _ _), (.slice _ _ _)].toArray 136 (0, 0))], [(_, .cells [(.int _ _), (.int _ _), (.slice _ _ _)].toArray 136 (0, 0))]] rfl ?_; refine s_forget [(1, .slice _ _ _), (2, .func _ _ _), (8, .pointer _), (9, .pointer _), (15, .slice _ _ _), (16, .int _ _), (17, .int _ _)] ⟨rfl, rfl, rfl, rfl, rfl, rfl, rfl, trivial⟩ (fun _f => ?_); refine s_seq (s_region ?_); have hx := hX _ (getD_mem' (show g < xs.length by omega) : (xs.getD ((g : Nat) : Int).toNat default) ∈ xs); have hy := hY _ (getD_mem' (show g < ys.length by omega) : (ys.getD ((g : Nat) : Int).toNat default) ∈ ys); refine ov (y_move (v := .func _ _ _) rfl) ?_; refine ov (y_loads (cs := [_, _, _]) Try.isAgg136 Try.sizeOf136 rfl rfl rfl (cels_own 0 rfl rfl)) ?_; refine ov (y_loads (cs := [_, _, _]) Try.isAgg136 Try.sizeOf136 rfl rfl rfl (cels_own 1 rfl rfl)) ?_; refine o_fnv' 0 (d := 29) rfl hcall rfl rfl rfl (hf _ (xs.getD ((g : Nat) : Int).toNat default) (ys.getD ((g : Nat) : Int).toNat default) (hx.sub MSub.ext) (hy.sub MSub.ext)) ?_; rintro _ _ ⟨rfl, rfl⟩; refine ov (y_not rfl) (o_nil ?_); refine s_if rfl (fun h7 => ?_) (fun h8 => ?_)
   ·have hne := h7; refine s_seq (s_region ?_); refine ov (y_assign (v := .bool _) rfl) (o_nil ?_); refine s_ret ?_; exact ⟨_, [], res1 rfl rfl, ⟨congrArg Value.bool (decide_eq_false (fun hh => hne (hh.2 g (by omega)))).symm, rfl⟩, sub_picks [] rfl⟩
   ·have heq := Decidable.not_not.1 h8; refine s_skip ?_; refine s_region ?_; refine ov (y_add rfl rfl (by simp only [inK]; omega)) ?_; refine ov (y_move (v := .int _ _) rfl) (o_nil ?_); exact ⟨g + 1, (by first | omega | (dsimp only; omega)), ⟨by omega, all_next hall heq⟩, ⟨(congrArg (Value.int .i64) (by omega)), rfl, rfl, rfl, rfl, trivial⟩, (sub_picks [] rfl)⟩
  ·refine s_exit ?_; refine s_seq (s_region ?_); refine ov (y_assign (v := .bool _) rfl) (o_nil ?_); refine s_ret ?_; exact ⟨_, [], res1 rfl rfl, ⟨congrArg Value.bool (decide_eq_true (⟨by omega, fun j hj => hall j (by omega)⟩)).symm, rfl⟩, sub_picks [] rfl⟩

theorem SameComps1_c {V : Mem} (x y : CR) (hx : COK V x) (hy : COK V y) : CallS Try.prog 163 [.agg #[.int .i64 x.kind, .slice x.A x.n x.c], .agg #[.int .i64 y.kind, .slice y.A y.n y.c]].toArray V [] (fun r L' => r = .bool (decide (x.d = y.d)) ∧ L' = []) := by
 refine callS Try.func163 rfl rfl (fun w0 => ?_); refine s_seq (s_region ?_); refine o_box (v := (.agg #[(.int _ _), (.slice _ _ _)])) rfl rfl rfl (fun b1 => ?_); refine o_box (v := (.agg #[(.int _ _), (.slice _ _ _)])) rfl rfl rfl (fun b2 => ?_); refine ov (y_assign (v := .bool _) rfl) (o_nil ?_); refine s_seq (s_region ?_); refine ov (y_field0 Try.runUnderlying155 rfl Try.sizeOf3 rfl rfl) ?_; refine ov (y_load Try.isAgg3 rfl (cel_own 0 rfl rfl)) ?_; refine ov (y_field0 Try.runUnderlying155 rfl Try.sizeOf3 rfl rfl) ?_; refine ov (y_load Try.isAgg3 rfl (cel_own 1 rfl rfl)) ?_; refine o_split rfl rfl rfl (y_eql rfl rfl) (fun p3 => ?_) (fun p4 => ?_)
 ·have hk : x.kind = y.kind := p3; refine ov (y_move (v := .bool _) rfl) ?_; refine o_guard_yes rfl rfl ?_; refine ov (y_field0 Try.runUnderlying155 rfl Try.sizeOf22 rfl rfl) ?_; refine o_guard_yes rfl rfl ?_; refine ov (y_load Try.isAgg22 rfl (cel_own 0 rfl rfl)) ?_; refine o_guard_yes rfl rfl ?_; refine ov (y_field0 Try.runUnderlying155 rfl Try.sizeOf22 rfl rfl) ?_; refine o_guard_yes rfl rfl ?_; refine ov (y_load Try.isAgg22 rfl (cel_own 1 rfl rfl)) ?_; refine o_guard_yes rfl rfl ?_; refine o_fn 0 (d := 15) rfl Try.call21 (EqualI_c x.A x.n x.c x.vs hx.2.2.2.here.down hx.1 y.A y.n y.c y.vs hy.2.2.2.here.down hy.1 (by have := hx.2.2.1; omega)) rfl ?_; rintro _ _ ⟨rfl, rfl⟩; refine ov (y_pick_t (v := .bool _) rfl rfl) ?_; refine ov (y_assign (v := .bool _) rfl) (o_nil ?_); refine s_forget [(4, .bool _)] ⟨rfl, trivial⟩ (fun _f => ?_); refine s_ret ?_; exact ⟨_, [], res1 rfl rfl, ⟨congrArg Value.bool (decide_eq_decide.2 ⟨fun hh => Prod.ext hk hh, fun hh => congrArg Prod.snd hh⟩), rfl⟩, sub_picks [] rfl⟩
 ·have hk : ¬ x.kind = y.kind := p4; refine ov (y_move (v := .bool _) rfl) ?_; refine o_guard_no rfl rfl rfl rfl rfl ?_; refine o_guard_no rfl rfl rfl rfl rfl ?_; refine o_guard_no rfl rfl rfl rfl rfl ?_; refine o_guard_no rfl rfl rfl rfl rfl ?_; refine o_guard_no rfl rfl rfl rfl rfl ?_; refine ov (y_pick_f (v := .bool _) rfl rfl) ?_; refine ov (y_assign (v := .bool _) rfl) (o_nil ?_); refine s_forget [(4, .bool _)] ⟨rfl, trivial⟩ (fun _f => ?_); refine s_ret ?_; exact ⟨_, [], res1 rfl rfl, ⟨congrArg Value.bool ((decide_eq_false (fun hh => hk (congrArg Prod.fst hh))).symm), rfl⟩, sub_picks [] rfl⟩

theorem SameComps_c {V : Mem} (A : Option Addr) (n c : Nat) (xs : List CR) (h : CsOK V A n c xs) (B : Option Addr) (m d : Nat) (ys : List CR) (h' : CsOK V B m d ys) : CallS Try.prog 108 [.slice A n c, .slice B m d].toArray V [] (fun r L' => r = .bool (decide (xs.map CR.d = ys.map CR.d)) ∧ L' = []) := by
 refine callS Try.func108 rfl rfl (fun w0 => ?_); refine s_seq (s_region ?_); refine ov (y_assign (v := .bool _) rfl) (o_nil ?_); refine s_seq (s_region ?_); refine ov (y_move (v := .slice _ _ _) rfl) ?_; refine ov (y_move (v := .slice _ _ _) rfl) ?_; refine o_fn 0 (d := 7) rfl Try.call129 (EqualFC_c A n c xs h.2.2.2.1.here.down h.1 (by have := h.2.2.1; omega) (fun z hz => (h.2.2.2.2 z hz).sub MSub.ext) B m d ys h'.2.2.2.1.here.down h'.1 (by have := h'.2.2.1; omega) (fun z hz => (h'.2.2.2.2 z hz).sub MSub.ext) 163 [] Try.call163 (fun a b => a.d = b.d) (fun V' a b ha hb => SameComps1_c a b ha hb)) rfl ?_; rintro _ _ ⟨rfl, rfl⟩; refine ov (y_assign (v := .bool _) rfl) (o_nil ?_); refine s_ret ?_; exact ⟨_, [], res1 rfl rfl, ⟨congrArg Value.bool (decide_eq_decide.2 all2_map), rfl⟩, sub_picks [] rfl⟩

theorem SameI1_c {V : Mem} (x y : IR) (hx : IOK V x) (hy : IOK V y) : CallS Try.prog 107 [.agg #[.int .i64 x.e, .int .i64 x.g, .slice x.A x.n x.c], .agg #[.int .i64 y.e, .int .i64 y.g, .slice y.A y.n y.c]].toArray V [] (fun r L' => r = .bool (decide (x.d = y.d)) ∧ L' = []) := by
 refine callS Try.func107 rfl rfl (fun w0 => ?_); refine s_seq (s_region ?_); refine o_box (v := (.agg #[(.int _ _), (.int _ _), (.slice _ _ _)])) rfl rfl rfl (fun b1 => ?_); refine o_box (v := (.agg #[(.int _ _), (.int _ _), (.slice _ _ _)])) rfl rfl rfl (fun b2 => ?_); refine ov (y_assign (v := .bool _) rfl) (o_nil ?_); refine s_seq (s_region ?_); refine ov (y_field0 Try.runUnderlying136 rfl Try.sizeOf117 rfl rfl) ?_; refine ov (y_loads (cs := [_, _]) Try.isAgg117 Try.sizeOf117 rfl rfl rfl (cels_own 0 rfl rfl)) ?_; refine ov (y_field0 Try.runUnderlying136 rfl Try.sizeOf117 rfl rfl) ?_; refine ov (y_loads (cs := [_, _]) Try.isAgg117 Try.sizeOf117 rfl rfl rfl (cels_own 1 rfl rfl)) ?_; refine o_split rfl rfl rfl (y_eql_ent rfl rfl) (fun p3 => ?_) (fun p4 => ?_)
 ·have hk : x.e = y.e ∧ x.g = y.g := p3; refine ov (y_move (v := .bool _) rfl) ?_; refine o_guard_yes rfl rfl ?_; refine ov (y_field0 Try.runUnderlying136 rfl Try.sizeOf33 rfl rfl) ?_; refine o_guard_yes rfl rfl ?_; refine ov (y_load Try.isAgg33 rfl (cel_own 0 rfl rfl)) ?_; refine o_guard_yes rfl rfl ?_; refine ov (y_field0 Try.runUnderlying136 rfl Try.sizeOf33 rfl rfl) ?_; refine o_guard_yes rfl rfl ?_; refine ov (y_load Try.isAgg33 rfl (cel_own 1 rfl rfl)) ?_; refine o_guard_yes rfl rfl ?_; refine o_fn 0 (d := 15) rfl Try.call108 (SameComps_c x.A x.n x.c x.cs (CsOK.sub hx MSub.ext) y.A y.n y.c y.cs (CsOK.sub hy MSub.ext)) rfl ?_; rintro _ _ ⟨rfl, rfl⟩; refine ov (y_pick_t (v := .bool _) rfl rfl) ?_; refine ov (y_assign (v := .bool _) rfl) (o_nil ?_); refine s_forget [(4, .bool _)] ⟨rfl, trivial⟩ (fun _f => ?_); refine s_ret ?_; exact ⟨_, [], res1 rfl rfl, ⟨congrArg Value.bool (decide_eq_decide.2 ⟨fun hh => Prod.ext hk.1 (Prod.ext hk.2 hh), fun hh => congrArg (fun q => q.2.2) hh⟩), rfl⟩, sub_picks [] rfl⟩
 ·have hk : ¬ (x.e = y.e ∧ x.g = y.g) := p4; refine ov (y_move (v := .bool _) rfl) ?_; refine o_guard_no rfl rfl rfl rfl rfl ?_; refine o_guard_no rfl rfl rfl rfl rfl ?_; refine o_guard_no rfl rfl rfl rfl rfl ?_; refine o_guard_no rfl rfl rfl rfl rfl ?_; refine o_guard_no rfl rfl rfl rfl rfl ?_; refine ov (y_pick_f (v := .bool _) rfl rfl) ?_; refine ov (y_assign (v := .bool _) rfl) (o_nil ?_); refine s_forget [(4, .bool _)] ⟨rfl, trivial⟩ (fun _f => ?_); refine s_ret ?_; exact ⟨_, [], res1 rfl rfl, ⟨congrArg Value.bool ((decide_eq_false (fun hh => hk ⟨congrArg Prod.fst hh, congrArg (fun q => q.2.1) hh⟩)).symm), rfl⟩, sub_picks [] rfl⟩

theorem flds_eq {xs ys : List FR} (hl : xs.length = ys.length) (h : ∀ j, j < xs.length → (xs.getD j default).name = (ys.getD j default).name ∧ (xs.getD j default).bits = (ys.getD j default).bits ∧ (xs.getD j default).low = (ys.getD j default).low) : xs = ys := by
 refine all2_eq.1 ⟨hl, fun j hj => ?_⟩; obtain ⟨h1, h2, h3⟩ := h j hj
 cases hx : xs.getD j default
 cases hy : ys.getD j default
 rw [hx, hy] at h1 h2 h3
 simp_all
/-- What a world says. -/
def WR.d (w : WR) : List (ByteArray × List FR) × List Int × List (Int × Int × List (Int × List Int)) := (w.ks.map KR.d, w.gs, w.its.map IR.d)
instance (w v : WR) : Decidable (WR.d w = WR.d v) := decidable_of_iff (w.ks.map KR.d = v.ks.map KR.d ∧ w.gs = v.gs ∧ w.its.map IR.d = v.its.map IR.d) ⟨fun h => Prod.ext h.1 (Prod.ext h.2.1 h.2.2), fun h => ⟨congrArg Prod.fst h, congrArg (fun q => q.2.1) h, congrArg (fun q => q.2.2) h⟩⟩

theorem SameK_c {V : Mem} (A : Option Addr) (n c : Nat) (xs : List KR) (hX : KsOK V A n c xs) (B : Option Addr) (m d : Nat) (ys : List KR) (hY : KsOK V B m d ys) : CallS Try.prog 105 [.slice A n c, .slice B m d].toArray V [] (fun r L' => r = .bool (decide (xs.map KR.d = ys.map KR.d)) ∧ L' = []) := by
 have hx := hX.2.2.2.1; have hy := hY.2.2.2.1; have hxl := hX.1; have hyl := hY.1; refine callS Try.func105 rfl rfl (fun w0 => ?_); refine s_seq (s_region ?_); refine ov (y_assign (v := .bool _) rfl) (o_nil ?_); refine s_seq ?_; refine s_seq (s_region ?_); refine ov (y_move (v := .slice _ _ _) rfl) ?_; refine ov (y_len Try.runUnderlying23 rfl) ?_; refine ov (y_move (v := .slice _ _ _) rfl) ?_; refine ov (y_len Try.runUnderlying23 rfl) ?_; refine ov (y_neq rfl rfl) (o_nil ?_); refine s_if rfl (fun h1 => ?_) (fun h2 => ?_)
 ·refine s_seq (s_region ?_); refine ov (y_assign (v := .bool _) rfl) (o_nil ?_); refine s_ret ?_; exact ⟨_, [], res1 rfl rfl, ⟨congrArg Value.bool (decide_eq_false (fun hh => by have := congrArg List.length hh; simp only [List.length_map] at this; omega)).symm, rfl⟩, sub_picks [] rfl⟩
 ·refine s_skip ?_; refine s_seq ?_; refine s_seq (s_region ?_); refine ov (y_move (v := .slice _ _ _) rfl) ?_; refine ov (y_len Try.runUnderlying23 rfl) ?_; refine ov (y_move (v := .int _ _) rfl) (o_nil ?_); refine s_block ?_; refine s_loopK (γ := Nat) [(0, .slice _ _ _), (1, .slice _ _ _), (13, .int _ _)] [] (fun g => [(14, .int .i64 g)]) (fun g => []) (fun g => g ≤ n ∧ ∀ j, j < g → KR.d (xs.getD j default) = KR.d (ys.getD j default)) (fun g => n - g) (0) ⟨rfl, rfl, rfl, rfl, trivial⟩ (sub_picks [] rfl) ?_ ?_
  ·exact ⟨Nat.zero_le _, fun j hj => absurd hj (Nat.not_lt_zero j)⟩
  intro g _f hI; obtain ⟨hg, hall⟩ := hI; refine s_seq (s_region ?_); refine ov (y_lss rfl rfl) (o_nil ?_); refine s_seq ?_; refine s_if rfl (fun h3 => ?_) (fun h4 => ?_)
  ·refine s_skip ?_; refine s_seq ?_; refine s_block ?_; refine s_seq (s_region ?_); refine ov (y_move (v := .int _ _) rfl) ?_; refine ov (y_assign (v := .int _ _) rfl) (o_nil ?_); refine s_seq ?_; refine s_seq ?_; refine s_quiet (by kernel_rfl) (by kernel_rfl) ?_; have hkx := hX.2.2.2.2 _ (getD_mem' (show g < xs.length by omega) : (xs.getD ((g : Nat) : Int).toNat default) ∈ xs); have hky := hY.2.2.2.2 _ (getD_mem' (show g < ys.length by omega) : (ys.getD ((g : Nat) : Int).toNat default) ∈ ys); refine q_val rfl rfl rfl (y_move (v := .slice _ _ _) rfl) ?_; refine q_val rfl rfl rfl (y_move (v := .int _ _) rfl) ?_; refine q_val rfl rfl rfl (y_indexAddr Try.runUnderlying23 Try.sizeOf58 (some_at (sz := 1) encK_len (i := 0) hx (by omega)) rfl rfl (by omega)) ?_; refine q_val rfl rfl rfl (y_fieldX (F := 0) Try.runUnderlying58 rfl Try.sizeOf9 rfl (some_at (sz := 1) encK_len (i := 0) hx (by omega)) rfl) ?_; refine q_val rfl rfl rfl (y_load Try.isAgg9 rfl ((cels_at (sz := 2) encK_len hx.here (by omega)).cel' (i := 0) rfl)) ?_; refine q_val rfl rfl rfl (y_move (v := .slice _ _ _) rfl) ?_; refine q_val rfl rfl rfl (y_move (v := .int _ _) rfl) ?_; refine q_val rfl rfl rfl (y_indexAddr Try.runUnderlying23 Try.sizeOf58 (some_at (sz := 1) encK_len (i := 0) hy (by omega)) rfl rfl (by omega)) ?_; refine q_val rfl rfl rfl (y_fieldX (F := 0) Try.runUnderlying58 rfl Try.sizeOf9 rfl (some_at (sz := 1) encK_len (i := 0) hy (by omega)) rfl) ?_; refine q_val rfl rfl rfl (y_load Try.isAgg9 rfl ((cels_at (sz := 2) encK_len hy.here (by omega)).cel' (i := 0) rfl)) ?_; refine q_split rfl rfl rfl (y_neq_str rfl rfl) (fun p5 => ?_) (fun p6 => ?_)
   ·refine q_val rfl rfl rfl (y_move (v := .bool _) rfl) ?_; refine q_guard_no rfl rfl rfl rfl rfl ?_; refine q_guard_no rfl rfl rfl rfl rfl ?_; refine q_guard_no rfl rfl rfl rfl rfl ?_; refine q_guard_no rfl rfl rfl rfl rfl ?_; refine q_guard_no rfl rfl rfl rfl rfl ?_; refine q_guard_no rfl rfl rfl rfl rfl ?_; refine q_guard_no rfl rfl rfl rfl rfl ?_; refine q_guard_no rfl rfl rfl rfl rfl ?_; refine q_guard_no rfl rfl rfl rfl rfl ?_; refine q_guard_no rfl rfl rfl rfl rfl ?_; refine q_guard_no rfl rfl rfl rfl rfl ?_; refine q_guard_no rfl rfl rfl rfl rfl ?_; refine q_guard_no rfl rfl rfl rfl rfl ?_; refine q_val rfl rfl rfl (y_pick_t (v := .bool _) rfl rfl) ?_; refine q_nil ?_; refine s_forget [(0, .slice _ _ _), (1, .slice _ _ _), (5, .int _ _), (13, .int _ _), (14, .int _ _), (42, .bool _)] ⟨rfl, rfl, rfl, rfl, rfl, rfl, trivial⟩ (fun _f => ?_); refine s_then rfl ?_; refine s_seq (s_region ?_); refine ov (y_assign (v := .bool _) rfl) (o_nil ?_); refine s_ret ?_; exact ⟨_, [], res1 rfl rfl, ⟨congrArg Value.bool (decide_eq_false (fun hh => by have e : KR.d (xs.getD ((g : Nat) : Int).toNat default) = KR.d (ys.getD ((g : Nat) : Int).toNat default) := (all2_map.2 hh).2 g (by omega); first | exact absurd (congrArg Prod.fst e) (by assumption) | (have e2 := congrArg (fun q => q.2.length) e; have e3 : (xs.getD ((g : Nat) : Int).toNat default).fs.length = (ys.getD ((g : Nat) : Int).toNat default).fs.length := e2; have := hkx.1; have := hky.1; omega))).symm, rfl⟩, sub_picks [] rfl⟩
   ·refine q_val rfl rfl rfl (y_move (v := .bool _) rfl) ?_; refine q_guard_yes rfl rfl ?_; refine q_val rfl rfl rfl (y_move (v := .slice _ _ _) rfl) ?_; refine q_guard_yes rfl rfl ?_; refine q_val rfl rfl rfl (y_move (v := .int _ _) rfl) ?_; refine q_guard_yes rfl rfl ?_; refine q_val rfl rfl rfl (y_indexAddr Try.runUnderlying23 Try.sizeOf58 (some_at (sz := 1) encK_len (i := 0) hx (by omega)) rfl rfl (by omega)) ?_; refine q_guard_yes rfl rfl ?_; refine q_val rfl rfl rfl (y_fieldX (F := 1) Try.runUnderlying58 rfl Try.sizeOf56 rfl (some_at (sz := 1) encK_len (i := 0) hx (by omega)) rfl) ?_; refine q_guard_yes rfl rfl ?_; refine q_val rfl rfl rfl (y_load Try.isAgg56 rfl ((cels_at (sz := 2) encK_len hx.here (by omega)).cel' (i := 1) rfl)) ?_; refine q_guard_yes rfl rfl ?_; refine q_val rfl rfl rfl (y_len Try.runUnderlying56 rfl) ?_; refine q_guard_yes rfl rfl ?_; refine q_val rfl rfl rfl (y_move (v := .slice _ _ _) rfl) ?_; refine q_guard_yes rfl rfl ?_; refine q_val rfl rfl rfl (y_move (v := .int _ _) rfl) ?_; refine q_guard_yes rfl rfl ?_; refine q_val rfl rfl rfl (y_indexAddr Try.runUnderlying23 Try.sizeOf58 (some_at (sz := 1) encK_len (i := 0) hy (by omega)) rfl rfl (by omega)) ?_; refine q_guard_yes rfl rfl ?_; refine q_val rfl rfl rfl (y_fieldX (F := 1) Try.runUnderlying58 rfl Try.sizeOf56 rfl (some_at (sz := 1) encK_len (i := 0) hy (by omega)) rfl) ?_; refine q_guard_yes rfl rfl ?_; refine q_val rfl rfl rfl (y_load Try.isAgg56 rfl ((cels_at (sz := 2) encK_len hy.here (by omega)).cel' (i := 1) rfl)) ?_; refine q_guard_yes rfl rfl ?_; refine q_val rfl rfl rfl (y_len Try.runUnderlying56 rfl) ?_; refine q_guard_yes rfl rfl ?_; refine q_val rfl rfl rfl (y_neq rfl rfl) ?_; refine q_val rfl rfl rfl (y_pick_f (v := .bool _) rfl rfl) ?_; refine q_nil ?_; refine s_forget [(0, .slice _ _ _), (1, .slice _ _ _), (5, .int _ _), (13, .int _ _), (14, .int _ _), (42, .bool _)] ⟨rfl, rfl, rfl, rfl, rfl, rfl, trivial⟩ (fun _f => ?_); refine s_if rfl (fun h7 => ?_) (fun h8 => ?_)
    ·refine s_seq (s_region ?_); refine ov (y_assign (v := .bool _) rfl) (o_nil ?_); refine s_ret ?_; exact ⟨_, [], res1 rfl rfl, ⟨congrArg Value.bool (decide_eq_false (fun hh => by have e : KR.d (xs.getD ((g : Nat) : Int).toNat default) = KR.d (ys.getD ((g : Nat) : Int).toNat default) := (all2_map.2 hh).2 g (by omega); first | exact absurd (congrArg Prod.fst e) (by assumption) | (have e2 := congrArg (fun q => q.2.length) e; have e3 : (xs.getD ((g : Nat) : Int).toNat default).fs.length = (ys.getD ((g : Nat) : Int).toNat default).fs.length := e2; have := hkx.1; have := hky.1; omega))).symm, rfl⟩, sub_picks [] rfl⟩
    ·refine s_skip ?_; refine s_seq (s_region ?_); refine ov (y_move (v := .slice _ _ _) rfl) ?_; refine ov (y_move (v := .int _ _) rfl) ?_; refine ov (y_indexAddr Try.runUnderlying23 Try.sizeOf58 (some_at (sz := 1) encK_len (i := 0) hx (by omega)) rfl rfl (by omega)) ?_; refine ov (y_fieldX (F := 1) Try.runUnderlying58 rfl Try.sizeOf56 rfl (some_at (sz := 1) encK_len (i := 0) hx (by omega)) rfl) ?_; refine ov (y_load Try.isAgg56 rfl ((cels_at (sz := 2) encK_len hx.here (by omega)).cel' (i := 1) rfl)) ?_; refine ov (y_len Try.runUnderlying56 rfl) ?_; refine ov (y_move (v := .int _ _) rfl) (o_nil ?_); refine s_block ?_; have hnm : (xs.getD ((g : Nat) : Int).toNat default).name = (ys.getD ((g : Nat) : Int).toNat default).name := by first | assumption | exact Decidable.not_not.1 (by assumption)
     refine s_loopK (γ := Nat) [(0, .slice _ _ _), (1, .slice _ _ _), (5, .int _ _), (13, .int _ _), (14, .int _ _), (48, .int _ _)] [] (fun u => [(49, .int .i64 u)]) (fun u => []) (fun u => u ≤ (xs.getD ((g : Nat) : Int).toNat default).n ∧ ∀ j, j < u → ((xs.getD ((g : Nat) : Int).toNat default).fs.getD j default).name = ((ys.getD ((g : Nat) : Int).toNat default).fs.getD j default).name ∧ ((xs.getD ((g : Nat) : Int).toNat default).fs.getD j default).bits = ((ys.getD ((g : Nat) : Int).toNat default).fs.getD j default).bits ∧ ((xs.getD ((g : Nat) : Int).toNat default).fs.getD j default).low = ((ys.getD ((g : Nat) : Int).toNat default).fs.getD j default).low) (fun u => (xs.getD ((g : Nat) : Int).toNat default).n - u) (0) ⟨rfl, rfl, rfl, rfl, rfl, rfl, rfl, trivial⟩ (sub_picks [] rfl) ?_ ?_
     ·exact ⟨Nat.zero_le _, fun j hj => absurd hj (Nat.not_lt_zero j)⟩
     intro u _f hJ; obtain ⟨hu, hfl⟩ := hJ; refine s_seq (s_region ?_); refine ov (y_lss rfl rfl) (o_nil ?_); refine s_seq ?_; refine s_if rfl (fun h9 => ?_) (fun h10 => ?_)
     ·refine s_skip ?_; refine s_seq ?_; refine s_block ?_; refine s_seq (s_region ?_); refine ov (y_move (v := .int _ _) rfl) ?_; refine ov (y_assign (v := .int _ _) rfl) (o_nil ?_); refine s_seq ?_; refine s_quiet (by kernel_rfl) (by kernel_rfl) ?_; refine q_val rfl rfl rfl (y_move (v := .slice _ _ _) rfl) ?_; refine q_val rfl rfl rfl (y_move (v := .int _ _) rfl) ?_; refine q_val rfl rfl rfl (y_indexAddr Try.runUnderlying23 Try.sizeOf58 (some_at (sz := 1) encK_len (i := 0) hx (by omega)) rfl rfl (by omega)) ?_; refine q_val rfl rfl rfl (y_fieldX (F := 1) Try.runUnderlying58 rfl Try.sizeOf56 rfl (some_at (sz := 1) encK_len (i := 0) hx (by omega)) rfl) ?_; refine q_val rfl rfl rfl (y_load Try.isAgg56 rfl ((cels_at (sz := 2) encK_len hx.here (by omega)).cel' (i := 1) rfl)) ?_; refine q_val rfl rfl rfl (y_move (v := .int _ _) rfl) ?_; refine q_val rfl rfl rfl (y_indexAddr Try.runUnderlying56 Try.sizeOf61 (some_at (sz := 2) encF_len (i := 0) hkx.2.2.2 (by have := hkx.1; omega)) rfl rfl (by have := hkx.1; omega)) ?_; refine q_val rfl rfl rfl (y_loads (cs := [_, _, _]) Try.isAgg61 Try.sizeOf61 rfl (by unfold idx; rw [Option.isSome_map]; exact some_at (sz := 2) encF_len (i := 0) hkx.2.2.2 (by have := hkx.1; omega)) rfl (cels_at (sz := 3) encF_len hkx.2.2.2.here (by have := hkx.1; omega))) ?_; refine q_val rfl rfl rfl (y_move (v := .slice _ _ _) rfl) ?_; refine q_val rfl rfl rfl (y_move (v := .int _ _) rfl) ?_; refine q_val rfl rfl rfl (y_indexAddr Try.runUnderlying23 Try.sizeOf58 (some_at (sz := 1) encK_len (i := 0) hy (by omega)) rfl rfl (by omega)) ?_; refine q_val rfl rfl rfl (y_fieldX (F := 1) Try.runUnderlying58 rfl Try.sizeOf56 rfl (some_at (sz := 1) encK_len (i := 0) hy (by omega)) rfl) ?_; refine q_val rfl rfl rfl (y_load Try.isAgg56 rfl ((cels_at (sz := 2) encK_len hy.here (by omega)).cel' (i := 1) rfl)) ?_; refine q_val rfl rfl rfl (y_move (v := .int _ _) rfl) ?_; refine q_val rfl rfl rfl (y_indexAddr Try.runUnderlying56 Try.sizeOf61 (some_at (sz := 2) encF_len (i := 0) hky.2.2.2 (by have := hky.1; have := hkx.1; omega)) rfl rfl (by have := hky.1; have := hkx.1; omega)) ?_; refine q_val rfl rfl rfl (y_loads (cs := [_, _, _]) Try.isAgg61 Try.sizeOf61 rfl (by unfold idx; rw [Option.isSome_map]; exact some_at (sz := 2) encF_len (i := 0) hky.2.2.2 (by have := hky.1; have := hkx.1; omega)) rfl (cels_at (sz := 3) encF_len hky.2.2.2.here (by have := hky.1; have := hkx.1; omega))) ?_; refine q_val rfl rfl rfl (y_neq_field rfl rfl) ?_; refine q_nil ?_; refine s_forget [(0, .slice _ _ _), (1, .slice _ _ _), (5, .int _ _), (13, .int _ _), (14, .int _ _), (48, .int _ _), (49, .int _ _), (68, .bool _)] ⟨rfl, rfl, rfl, rfl, rfl, rfl, rfl, rfl, trivial⟩ (fun _f => ?_); refine s_if rfl (fun h11 => ?_) (fun h12 => ?_)
      ·have hne := h11; refine s_seq (s_region ?_); refine ov (y_assign (v := .bool _) rfl) (o_nil ?_); refine s_ret ?_; exact ⟨_, [], res1 rfl rfl, ⟨congrArg Value.bool (decide_eq_false (fun hh => hne (by have e : KR.d (xs.getD ((g : Nat) : Int).toNat default) = KR.d (ys.getD ((g : Nat) : Int).toNat default) := (all2_map.2 hh).2 g (by omega); have e2 : (xs.getD ((g : Nat) : Int).toNat default).fs = (ys.getD ((g : Nat) : Int).toNat default).fs := congrArg Prod.snd e; rw [e2]; exact ⟨rfl, rfl, rfl⟩))).symm, rfl⟩, sub_picks [] rfl⟩
      ·have heq := Decidable.not_not.1 h12; refine s_skip ?_; refine s_region ?_; refine ov (y_add rfl rfl (by have := hkx.2.2.1; simp only [inK]; omega)) ?_; refine ov (y_move (v := .int _ _) rfl) (o_nil ?_); exact ⟨u + 1, (by first | omega | (dsimp only; omega)), ⟨by omega, all_next hfl heq⟩, ⟨(congrArg (Value.int .i64) (by omega)), rfl, rfl, rfl, rfl, rfl, rfl, trivial⟩, (sub_picks [] rfl)⟩
     ·refine s_exit ?_; refine s_region ?_; refine ov (y_add rfl rfl (by have := hX.2.2.1; simp only [inK]; omega)) ?_; refine ov (y_move (v := .int _ _) rfl) (o_nil ?_); have hfe : (xs.getD ((g : Nat) : Int).toNat default).fs = (ys.getD ((g : Nat) : Int).toNat default).fs := flds_eq (by have := hkx.1; have := hky.1; omega) (fun j hj => hfl j (by have := hkx.1; omega)); exact ⟨g + 1, (by first | omega | (dsimp only; omega)), ⟨by omega, all_next hall (show KR.d (xs.getD ((g : Nat) : Int).toNat default) = KR.d (ys.getD ((g : Nat) : Int).toNat default) from Prod.ext hnm hfe)⟩, ⟨(congrArg (Value.int .i64) (by omega)), rfl, rfl, rfl, trivial⟩, (sub_picks [] rfl)⟩
  ·refine s_exit ?_; refine s_seq (s_region ?_); refine ov (y_assign (v := .bool _) rfl) (o_nil ?_); refine s_ret ?_; exact ⟨_, [], res1 rfl rfl, ⟨congrArg Value.bool (decide_eq_true (all2_map.1 ⟨by omega, fun j hj => hall j (by omega)⟩)).symm, rfl⟩, sub_picks [] rfl⟩

theorem SameW_c {V : Mem} (w : WR) (hw : WOK V w) (v : WR) (hv : WOK V v) : CallS Try.prog 32 [.agg #[.slice w.kA w.kn w.kc, .slice w.gA w.gn w.gc, .slice w.iA w.iN w.iC], .agg #[.slice v.kA v.kn v.kc, .slice v.gA v.gn v.gc, .slice v.iA v.iN v.iC]].toArray V [] (fun r L' => r = .bool (decide (w.d = v.d)) ∧ L' = []) := by
 refine callS Try.func32 rfl rfl (fun w0 => ?_); refine s_seq (s_region ?_); refine o_box (v := (.agg #[(.slice _ _ _), (.slice _ _ _), (.slice _ _ _)])) rfl rfl rfl (fun b1 => ?_); refine o_box (v := (.agg #[(.slice _ _ _), (.slice _ _ _), (.slice _ _ _)])) rfl rfl rfl (fun b2 => ?_); refine ov (y_assign (v := .bool _) rfl) (o_nil ?_); refine s_seq (s_region ?_); refine ov (y_field0 Try.runUnderlying47 rfl Try.sizeOf23 rfl rfl) ?_; refine ov (y_load Try.isAgg23 rfl (cel_own 0 rfl rfl)) ?_; refine ov (y_field0 Try.runUnderlying47 rfl Try.sizeOf23 rfl rfl) ?_; refine ov (y_load Try.isAgg23 rfl (cel_own 1 rfl rfl)) ?_; refine o_fn 0 (d := 9) rfl Try.call105 (SameK_c w.kA w.kn w.kc w.ks (hw.1.sub MSub.ext) v.kA v.kn v.kc v.ks (hv.1.sub MSub.ext)) rfl ?_; rintro _ _ ⟨rfl, rfl⟩; refine o_split rfl rfl rfl (y_move (v := .bool _) rfl) (fun p3 => ?_) (fun p4 => ?_)
 ·have hkk := p3; refine o_guard_yes rfl rfl ?_; refine ov (y_field0 Try.runUnderlying47 rfl Try.sizeOf22 rfl rfl) ?_; refine o_guard_yes rfl rfl ?_; refine ov (y_load Try.isAgg22 rfl (cel_own 0 rfl rfl)) ?_; refine o_guard_yes rfl rfl ?_; refine ov (y_field0 Try.runUnderlying47 rfl Try.sizeOf22 rfl rfl) ?_; refine o_guard_yes rfl rfl ?_; refine ov (y_load Try.isAgg22 rfl (cel_own 1 rfl rfl)) ?_; refine o_guard_yes rfl rfl ?_; refine o_fn 0 (d := 15) rfl Try.call21 (EqualI_c w.gA w.gn w.gc w.gs hw.2.1.2.2.2.here.down hw.2.1.1 v.gA v.gn v.gc v.gs hv.2.1.2.2.2.here.down hv.2.1.1 (by have := hw.2.1.2.2.1; omega)) rfl ?_; rintro _ _ ⟨rfl, rfl⟩; refine o_split rfl rfl rfl (y_pick_t (v := .bool _) rfl rfl) (fun p5 => ?_) (fun p6 => ?_)
  ·have hgg := p5; refine ov (y_move (v := .bool _) rfl) ?_; refine o_guard_yes rfl rfl ?_; refine ov (y_field0 Try.runUnderlying47 rfl Try.sizeOf45 rfl rfl) ?_; refine o_guard_yes rfl rfl ?_; refine ov (y_load Try.isAgg45 rfl (cel_own 0 rfl rfl)) ?_; refine o_guard_yes rfl rfl ?_; refine ov (y_field0 Try.runUnderlying47 rfl Try.sizeOf45 rfl rfl) ?_; refine o_guard_yes rfl rfl ?_; refine ov (y_load Try.isAgg45 rfl (cel_own 1 rfl rfl)) ?_; refine o_guard_yes rfl rfl ?_; refine o_fn 0 (d := 22) rfl Try.call106 (EqualFI_c w.iA w.iN w.iC w.its hw.2.2.2.2.2.1.here.down hw.2.2.1 (by have := hw.2.2.2.2.1; omega) (fun z hz => (hw.2.2.2.2.2.2 z hz).sub MSub.ext) v.iA v.iN v.iC v.its hv.2.2.2.2.2.1.here.down hv.2.2.1 (by have := hv.2.2.2.2.1; omega) (fun z hz => (hv.2.2.2.2.2.2 z hz).sub MSub.ext) 107 [] Try.call107 (fun a b => a.d = b.d) (fun V' a b ha hb => SameI1_c a b ha hb)) rfl ?_; rintro _ _ ⟨rfl, rfl⟩; refine ov (y_pick_t (v := .bool _) rfl rfl) ?_; refine ov (y_assign (v := .bool _) rfl) (o_nil ?_); refine s_forget [(4, .bool _)] ⟨rfl, trivial⟩ (fun _f => ?_); refine s_ret ?_; exact ⟨_, [], res1 rfl rfl, ⟨congrArg Value.bool (decide_eq_decide.2 ⟨fun hh => Prod.ext hkk (Prod.ext hgg (all2_map.1 hh)), fun hh => all2_map.2 (congrArg (fun q => q.2.2) hh)⟩), rfl⟩, sub_picks [] rfl⟩
  ·have hgg := p6; refine ov (y_move (v := .bool _) rfl) ?_; refine o_guard_no rfl rfl rfl rfl rfl ?_; refine o_guard_no rfl rfl rfl rfl rfl ?_; refine o_guard_no rfl rfl rfl rfl rfl ?_; refine o_guard_no rfl rfl rfl rfl rfl ?_; refine o_guard_no rfl rfl rfl rfl rfl ?_; refine ov (y_pick_f (v := .bool _) rfl rfl) ?_; refine ov (y_assign (v := .bool _) rfl) (o_nil ?_); refine s_forget [(4, .bool _)] ⟨rfl, trivial⟩ (fun _f => ?_); refine s_ret ?_; exact ⟨_, [], res1 rfl rfl, ⟨congrArg Value.bool (decide_eq_false (fun hh => hgg (congrArg (fun q => q.2.1) hh))).symm, rfl⟩, sub_picks [] rfl⟩
 ·have hkk := p4; refine o_guard_no rfl rfl rfl rfl rfl ?_; refine o_guard_no rfl rfl rfl rfl rfl ?_; refine o_guard_no rfl rfl rfl rfl rfl ?_; refine o_guard_no rfl rfl rfl rfl rfl ?_; refine o_guard_no rfl rfl rfl rfl rfl ?_; refine ov (y_pick_f (v := .bool _) rfl rfl) ?_; refine ov (y_move (v := .bool _) rfl) ?_; refine o_guard_no rfl rfl rfl rfl rfl ?_; refine o_guard_no rfl rfl rfl rfl rfl ?_; refine o_guard_no rfl rfl rfl rfl rfl ?_; refine o_guard_no rfl rfl rfl rfl rfl ?_; refine o_guard_no rfl rfl rfl rfl rfl ?_; refine ov (y_pick_f (v := .bool _) rfl rfl) ?_; refine ov (y_assign (v := .bool _) rfl) (o_nil ?_); refine s_forget [(4, .bool _)] ⟨rfl, trivial⟩ (fun _f => ?_); refine s_ret ?_; exact ⟨_, [], res1 rfl rfl, ⟨congrArg Value.bool (decide_eq_false (fun hh => hkk (congrArg Prod.fst hh))).symm, rfl⟩, sub_picks [] rfl⟩

end Go.Proofs.Ytacmbiohjiogiaa.K
end
section
set_option linter.unusedVariables false
set_option linter.unusedSimpArgs false
set_option maxRecDepth 100000
namespace Go.Proofs.Ytacmbiohjiogiaa.K
open Go.RowKit

/-- The component of a kind. -/
def findC (cs : List CR) (k : Int) : Option CR := cs.find? (fun x => decide (x.kind = k))
theorem IndexFI_c {V : Mem} (A : Option Addr) (n c : Nat) (xs : List IR) (h : Cels V [] A (xs.flatMap encIt)) (hn : xs.length = n) (hbn : n ≤ 140737488355328) (hX : ∀ x ∈ xs, IOK V x) (fid : FuncId) (cap : List Value) (hcall : ∀ args w, (callFunc fid args).run Try.prog w = .ok (.enter fid args) w) (g0 : Grp) (p : IR → Prop) [∀ x, Decidable (p x)] (hf : ∀ (V' : Mem) (x : IR) (hx : IOK V' x), CallS Try.prog fid (([.agg #[.int .i64 x.e, .int .i64 x.g, .slice x.A x.n x.c]] : List Value) ++ cap).toArray V' [g0] (fun r L' => r = .bool (decide (p x)) ∧ L' = [g0])) : CallS Try.prog 59 [.slice A n c, .func (.func fid) #[] cap.toArray].toArray V [g0] (fun r L' => ∃ k, r = .int .i64 k ∧ IdxOK p xs k ∧ L' = [g0]) := by
 refine callS Try.func59 rfl rfl (fun w0 => ?_); refine s_seq (s_region ?_); refine ov (y_assign (v := .int _ _) rfl) (o_nil ?_); refine s_seq ?_; refine s_seq (s_region ?_); refine ov (y_move (v := .slice _ _ _) rfl) ?_; refine ov (y_len Try.runUnderlying45 rfl) ?_; refine ov (y_move (v := .int _ _) rfl) (o_nil ?_); refine s_block ?_; refine s_loopK (γ := Nat) [(0, .slice _ _ _), (1, .func _ _ _), (7, .int _ _)] [_] (fun g => [(8, .int .i64 g)]) (fun g => []) (fun g => g ≤ n ∧ ∀ j, j < g → ¬ p (xs.getD j default)) (fun g => n - g) (0) ⟨rfl, rfl, rfl, rfl, trivial⟩ (sub_picks [0] rfl) ?_ ?_
 ·exact ⟨Nat.zero_le _, fun j hj => absurd hj (Nat.not_lt_zero j)⟩
 intro g _f hI; obtain ⟨hg, hall⟩ := hI; refine s_seq (s_region ?_); refine ov (y_lss rfl rfl) (o_nil ?_); refine s_seq ?_; refine s_if rfl (fun h1 => ?_) (fun h2 => ?_)
 ·refine s_skip ?_; refine s_seq ?_; refine s_block ?_; refine s_seq (s_region ?_); refine ov (y_move (v := .int _ _) rfl) ?_; refine ov (y_assign (v := .int _ _) rfl) (o_nil ?_); refine s_seq (s_region ?_); have hx := hX _ (getD_mem' (show g < xs.length by omega) : (xs.getD ((g : Nat) : Int).toNat default) ∈ xs); refine ov (y_move (v := .func _ _ _) rfl) ?_; refine ov (y_move (v := .slice _ _ _) rfl) ?_; refine ov (y_move (v := .int _ _) rfl) ?_; refine ov (y_indexAddr Try.runUnderlying45 Try.sizeOf136 (some_at (sz := 2) encIt_len (i := 0) h (by omega)) rfl rfl (by omega)) ?_; refine ov (y_loads (cs := [_, _, _]) Try.isAgg136 Try.sizeOf136 rfl (by unfold idx; rw [Option.isSome_map]; exact some_at (sz := 2) encIt_len (i := 0) h (by omega)) rfl (cels_at (sz := 3) encIt_len h.here (by omega))) ?_; refine o_fnv' 1 (d := 16) rfl hcall rfl rfl rfl (hf _ (xs.getD ((g : Nat) : Int).toNat default) (hx.sub MSub.ext)) ?_; rintro _ _ ⟨rfl, rfl⟩; refine o_nil ?_; refine s_if rfl (fun h3 => ?_) (fun h4 => ?_)
  ·have hyes := h3; refine s_seq (s_region ?_); refine ov (y_move (v := .int _ _) rfl) ?_; refine ov (y_assign (v := .int _ _) rfl) (o_nil ?_); refine s_forget [(0, .slice _ _ _), (1, .func _ _ _), (4, .int _ _), (7, .int _ _), (8, .int _ _)] ⟨rfl, rfl, rfl, rfl, rfl, trivial⟩ (fun _f => ?_); refine s_ret ?_; exact ⟨_, [_], res1 rfl rfl, ⟨_, rfl, .inr ⟨g, rfl, by omega, hyes, hall⟩, rfl⟩, sub_picks [0] rfl⟩
  ·have hno := h4; refine s_skip ?_; refine s_region ?_; refine ov (y_add rfl rfl (by simp only [inK]; omega)) ?_; refine ov (y_move (v := .int _ _) rfl) (o_nil ?_); exact ⟨g + 1, (by first | omega | (dsimp only; omega)), ⟨by omega, all_next hall hno⟩, ⟨(congrArg (Value.int .i64) (by omega)), rfl, rfl, rfl, trivial⟩, (sub_picks [0] rfl)⟩
 ·refine s_exit ?_; refine s_seq (s_region ?_); refine ov (y_assign (v := .int _ _) rfl) (o_nil ?_); refine s_ret ?_; exact ⟨_, [_], res1 rfl rfl, ⟨_, rfl, .inl ⟨rfl, fun j hj => hall j (by omega)⟩, rfl⟩, sub_picks [0] rfl⟩

end Go.Proofs.Ytacmbiohjiogiaa.K
end
section
set_option linter.unusedVariables false
set_option linter.unusedSimpArgs false
set_option maxRecDepth 100000
namespace Go.Proofs.Ytacmbiohjiogiaa.K
open Go.RowKit

/-- A clash. -/
structure KL where
 what : Int
 slot : Int
 kind : Int
 field : Int
instance : Inhabited KL := ⟨⟨0, 0, 0, 0⟩⟩
def mBad (o x y : Int) : Prop := ¬ (x = y ∨ y = o) ∧ x ≠ o
instance (o x y : Int) : Decidable (mBad o x y) := by unfold mBad; infer_instance
end Go.Proofs.Ytacmbiohjiogiaa.K
end
section
set_option linter.unusedVariables false
set_option linter.unusedSimpArgs false
set_option maxRecDepth 100000
namespace Go.Proofs.Ytacmbiohjiogiaa.K
open Go.RowKit

def fc (cs : List CR) (k : Int) : Option (List Int) := (findC cs k).map CR.vs
end Go.Proofs.Ytacmbiohjiogiaa.K
end
section
set_option linter.unusedVariables false
set_option linter.unusedSimpArgs false
set_option maxRecDepth 100000
namespace Go.Proofs.Ytacmbiohjiogiaa.K
open Go.RowKit

/-- A number brought near. -/
def clF (a : Int) : Int := min (max a (-1099511627776)) 1099511627776
theorem clF_bd (a : Int) : -1099511627776 ≤ clF a ∧ clF a ≤ 1099511627776 := by unfold clF; omega
theorem and_mask {x : Nat} (hx : x < 18446744073709551616) : bAnd .u64 (x : Int) 4294967295 = ((x % 4294967296 : Nat) : Int) := by
 unfold bAnd; have h1 : (BitVec.ofInt 64 (x : Int) &&& BitVec.ofInt 64 4294967295).toNat = x % 4294967296 := by
  rw [BitVec.toNat_and, show (BitVec.ofInt 64 (x : Int)).toNat = x from by rw [BitVec.toNat_ofInt]; omega, show (BitVec.ofInt 64 4294967295).toNat = 2 ^ 32 - 1 from rfl, Nat.and_two_pow_sub_one_eq_mod]
 rw [show IntKind.u64.bits = 64 from rfl, h1, wrap_in (by simp only [inK]; omega)]
theorem shr_32 {x : Nat} : ((x : Int)).fdiv (2 ^ (min (32 : Int).toNat 64)) = ((x / 4294967296 : Nat) : Int) := by
 rw [show min (32 : Int).toNat 64 = 32 from rfl, Int.fdiv_eq_ediv_of_nonneg _ (by decide)]
 rfl
theorem u64_in {x : Nat} (hx : x < 18446744073709551616) : inK .u64 (x : Int) := by simp only [inK]; omega
def qF (P D : Nat) : Nat := if 1099511627776 < P / D then 1099511627777 else P / D
def rF (P D : Nat) : Nat := if 1099511627776 < P / D then 0 else P % D
def neg3 (a b c : Int) : Bool := xor (xor (decide (clF a < 0)) (decide (clF b < 0))) (decide (clF c < 0))
def absP (a b : Int) : Nat := (clF a).natAbs * (clF b).natAbs
/-- The rounded number a b / c. -/
def mdF (a b c : Int) : Int :=
 if clF c = 0 then 0 else if (clF c).natAbs ≤ absP a b / 18446744073709551616 then (if neg3 a b c then -1099511627776 else 1099511627776) else
 if neg3 a b c then clF (-(((if (clF c).natAbs - rF (absP a b) (clF c).natAbs < rF (absP a b) (clF c).natAbs then qF (absP a b) (clF c).natAbs + 1 else qF (absP a b) (clF c).natAbs) : Nat) : Int))
 else clF (((if (clF c).natAbs - rF (absP a b) (clF c).natAbs ≤ rF (absP a b) (clF c).natAbs then qF (absP a b) (clF c).natAbs + 1 else qF (absP a b) (clF c).natAbs) : Nat) : Int)
theorem mdF_zero {a b c : Int} (h : clF c = 0) : mdF a b c = 0 := if_pos h
theorem mdF_eq {a b c : Int} (h : ¬ clF c = 0) (hP : ¬ (clF c).natAbs ≤ absP a b / 18446744073709551616) : mdF a b c = if neg3 a b c then clF (-(((if (clF c).natAbs - rF (absP a b) (clF c).natAbs < rF (absP a b) (clF c).natAbs then qF (absP a b) (clF c).natAbs + 1 else qF (absP a b) (clF c).natAbs) : Nat) : Int))
 else clF (((if (clF c).natAbs - rF (absP a b) (clF c).natAbs ≤ rF (absP a b) (clF c).natAbs then qF (absP a b) (clF c).natAbs + 1 else qF (absP a b) (clF c).natAbs) : Nat) : Int) := by
 unfold mdF; rw [if_neg h, if_neg hP]
theorem rF_lt {P D : Nat} (h : 0 < D) : rF P D < D := by
 unfold rF; split
 ·exact h
 ·exact Nat.mod_lt _ h
theorem qF_le {P D : Nat} : qF P D ≤ 1099511627777 := by unfold qF; split <;> omega
theorem Clamp_c {V : Mem} (a : Int) : CallS Try.prog 213 [.int .i64 a].toArray V [] (fun r L' => r = .int .i64 (clF a) ∧ L' = []) := by
 refine callS Try.func213 rfl rfl (fun w0 => ?_); refine s_seq (s_region ?_); refine ov (y_assign (v := .int _ _) rfl) (o_nil ?_); refine s_seq (s_region ?_); refine ov (y_move (v := .int _ _) rfl) ?_; refine ov (y_max rfl rfl) ?_; refine ov (y_min rfl rfl) ?_; refine ov (y_assign (v := .int _ _) rfl) (o_nil ?_); refine s_ret ?_; exact ⟨_, [], res1 rfl rfl, ⟨rfl, rfl⟩, sub_picks [] rfl⟩

theorem FAdd_c {V : Mem} (a b : Int) : CallS Try.prog 183 [.int .i64 a, .int .i64 b].toArray V [] (fun r L' => r = .int .i64 (clF (clF a + clF b)) ∧ L' = []) := by
 refine callS Try.func183 rfl rfl (fun w0 => ?_); refine s_seq (s_region ?_); refine ov (y_assign (v := .int _ _) rfl) (o_nil ?_); refine s_seq (s_region ?_); refine ov (y_move (v := .int _ _) rfl) ?_; refine o_fn 0 (d := 6) rfl Try.call213 (Clamp_c a) rfl ?_; rintro _ _ ⟨rfl, rfl⟩; have hca := clF_bd a; refine ov (y_move (v := .int _ _) rfl) ?_; refine o_fn 0 (d := 8) rfl Try.call213 (Clamp_c b) rfl ?_; rintro _ _ ⟨rfl, rfl⟩; have hcb := clF_bd b; refine ov (y_add rfl rfl (by simp only [inK]; omega)) ?_; refine o_fn 0 (d := 10) rfl Try.call213 (Clamp_c (clF a + clF b)) rfl ?_; rintro _ _ ⟨rfl, rfl⟩; have hcs := clF_bd (clF a + clF b); refine ov (y_assign (v := .int _ _) rfl) (o_nil ?_); refine s_ret ?_; exact ⟨_, [], res1 rfl rfl, ⟨rfl, rfl⟩, sub_picks [] rfl⟩

theorem mag_c {V : Mem} (a : Int) (h : -1099511627776 ≤ a ∧ a ≤ 1099511627776) : CallS Try.prog 218 [.int .i64 a].toArray V [] (fun r L' => r = .int .u64 ((a.natAbs : Nat) : Int) ∧ L' = []) := by
 refine callS Try.func218 rfl rfl (fun w0 => ?_); refine s_seq (s_region ?_); refine ov (y_assign (v := .int _ _) rfl) (o_nil ?_); refine s_seq ?_; refine s_seq (s_region ?_); refine ov (y_move (v := .int _ _) rfl) ?_; refine ov (y_lss rfl rfl) (o_nil ?_); refine s_if rfl (fun h1 => ?_) (fun h2 => ?_)
 ·refine s_seq (s_region ?_); refine ov (y_move (v := .int _ _) rfl) ?_; refine ov (y_neg rfl (by simp only [inK]; omega)) ?_; refine ov (y_conv Try.runUnderlying3 Try.runUnderlying86 rfl (by simp only [inK]; omega)) ?_; refine ov (y_assign (v := .int _ _) rfl) (o_nil ?_); refine s_ret ?_; exact ⟨_, [], res1 rfl rfl, ⟨congrArg (Value.int .u64) (by omega), rfl⟩, sub_picks [] rfl⟩
 ·refine s_skip ?_; refine s_seq (s_region ?_); refine ov (y_move (v := .int _ _) rfl) ?_; refine ov (y_conv Try.runUnderlying3 Try.runUnderlying86 rfl (by simp only [inK]; omega)) ?_; refine ov (y_assign (v := .int _ _) rfl) (o_nil ?_); refine s_ret ?_; exact ⟨_, [], res1 rfl rfl, ⟨congrArg (Value.int .u64) (by omega), rfl⟩, sub_picks [] rfl⟩

theorem Mul64_c {V : Mem} (x y : Nat) (hx : x < 18446744073709551616) (hy : y < 18446744073709551616) : CallS Try.prog 219 [.int .u64 x, .int .u64 y].toArray V [] (fun r L' => r = .tuple #[.int .u64 ((x * y / 18446744073709551616 : Nat) : Int), .int .u64 ((x * y % 18446744073709551616 : Nat) : Int)] ∧ L' = []) := by
 obtain ⟨bd, bt, bw, hhi⟩ := Go.Lib.mul64_hi x y hx hy; have ba := Go.Lib.half_mul_le (a := x / 4294967296) (b := y / 4294967296) (by omega) (by omega); have bb := Go.Lib.half_mul_le (a := x / 4294967296) (b := y % 4294967296) (by omega) (by omega); have bc := Go.Lib.half_mul_le (a := x % 4294967296) (b := y / 4294967296) (by omega) (by omega); have hlt : x * y / 18446744073709551616 < 18446744073709551616 := Nat.div_lt_of_lt_mul (Nat.mul_lt_mul'' hx hy); refine callS Try.func219 rfl rfl (fun w0 => ?_); refine s_seq (s_region ?_); refine ov (y_assign (v := .int _ _) rfl) ?_; refine ov (y_assign (v := .int _ _) rfl) (o_nil ?_); refine s_seq (s_region ?_); refine ov (y_move (v := .int _ _) rfl) ?_; refine ov ((y_and rfl rfl).int (and_mask hx)) ?_; refine ov (y_assign (v := .int _ _) rfl) (o_nil ?_); refine s_seq (s_region ?_); refine ov (y_move (v := .int _ _) rfl) ?_; refine ov ((y_shr rfl rfl (by omega)).int (shr_32)) ?_; refine ov (y_assign (v := .int _ _) rfl) (o_nil ?_); refine s_seq (s_region ?_); refine ov (y_move (v := .int _ _) rfl) ?_; refine ov ((y_and rfl rfl).int (and_mask hy)) ?_; refine ov (y_assign (v := .int _ _) rfl) (o_nil ?_); refine s_seq (s_region ?_); refine ov (y_move (v := .int _ _) rfl) ?_; refine ov ((y_shr rfl rfl (by omega)).int (shr_32)) ?_; refine ov (y_assign (v := .int _ _) rfl) (o_nil ?_); refine s_forget [(0, .int _ _), (1, .int _ _), (4, .int _ _), (5, .int _ _), (6, .int _ _), (7, .int _ _), (8, .int _ _), (9, .int _ _)] ⟨rfl, rfl, rfl, rfl, rfl, rfl, rfl, rfl, trivial⟩ (fun _f => ?_); refine s_seq (s_region ?_); refine ov (y_move (v := .int _ _) rfl) ?_; refine ov (y_move (v := .int _ _) rfl) ?_; refine ov ((y_mul rfl rfl (by rw [← Int.natCast_mul]; exact u64_in bd)).int ((Int.natCast_mul _ _).symm)) ?_; refine ov (y_assign (v := .int _ _) rfl) (o_nil ?_); refine s_seq (s_region ?_); refine ov (y_move (v := .int _ _) rfl) ?_; refine ov (y_move (v := .int _ _) rfl) ?_; refine ov ((y_mul rfl rfl (by rw [← Int.natCast_mul]; exact u64_in (by omega))).int ((Int.natCast_mul _ _).symm)) ?_; refine ov (y_move (v := .int _ _) rfl) ?_; refine ov ((y_shr rfl rfl (by omega)).int (shr_32)) ?_; refine ov ((y_add rfl rfl (by rw [← Int.natCast_add]; exact u64_in bt)).int ((Int.natCast_add _ _).symm)) ?_; refine ov (y_assign (v := .int _ _) rfl) (o_nil ?_); refine s_seq (s_region ?_); refine ov (y_move (v := .int _ _) rfl) ?_; refine ov ((y_and rfl rfl).int (and_mask bt)) ?_; refine ov (y_assign (v := .int _ _) rfl) (o_nil ?_); refine s_forget [(0, .int _ _), (1, .int _ _), (4, .int _ _), (5, .int _ _), (6, .int _ _), (7, .int _ _), (9, .int _ _), (11, .int _ _), (12, .int _ _)] ⟨rfl, rfl, rfl, rfl, rfl, rfl, rfl, rfl, rfl, trivial⟩ (fun _f => ?_); refine s_seq (s_region ?_); refine ov (y_move (v := .int _ _) rfl) ?_; refine ov ((y_shr rfl rfl (by omega)).int (shr_32)) ?_; refine ov (y_assign (v := .int _ _) rfl) (o_nil ?_); refine s_seq (s_region ?_); refine ov (y_move (v := .int _ _) rfl) ?_; refine ov (y_move (v := .int _ _) rfl) ?_; refine ov (y_move (v := .int _ _) rfl) ?_; refine ov ((y_mul rfl rfl (by rw [← Int.natCast_mul]; exact u64_in (by omega))).int ((Int.natCast_mul _ _).symm)) ?_; refine ov ((y_add rfl rfl (by rw [← Int.natCast_add]; exact u64_in bw)).int ((Int.natCast_add _ _).symm)) ?_; refine ov (y_assign (v := .int _ _) rfl) (o_nil ?_); refine s_seq (s_region ?_); refine ov (y_move (v := .int _ _) rfl) ?_; refine ov (y_move (v := .int _ _) rfl) ?_; refine ov ((y_mul rfl rfl (by rw [← Int.natCast_mul]; exact u64_in (by omega))).int ((Int.natCast_mul _ _).symm)) ?_; refine ov (y_move (v := .int _ _) rfl) ?_; refine ov ((y_add rfl rfl (by rw [← Int.natCast_add]; exact u64_in (by omega))).int ((Int.natCast_add _ _).symm)) ?_; refine ov (y_move (v := .int _ _) rfl) ?_; refine ov ((y_shr rfl rfl (by omega)).int (shr_32)) ?_; refine ov ((y_add rfl rfl (by rw [← Int.natCast_add, hhi]; exact u64_in hlt)).int ((Int.natCast_add _ _).symm.trans (congrArg Int.ofNat hhi))) ?_; refine ov (y_assign (v := .int _ _) rfl) (o_nil ?_); refine s_forget [(0, .int _ _), (1, .int _ _), (4, .int _ _), (5, .int _ _)] ⟨rfl, rfl, rfl, rfl, trivial⟩ (fun _f => ?_); refine s_seq (s_region ?_); refine ov (y_move (v := .int _ _) rfl) ?_; refine ov (y_move (v := .int _ _) rfl) ?_; refine ov ((y_mul' rfl rfl).int ((by rw [← Int.natCast_mul, IntKind.wrap_u64]; first | done | rfl))) ?_; refine ov (y_assign (v := .int _ _) rfl) (o_nil ?_); refine s_ret ?_; exact ⟨_, [], res2 rfl rfl rfl, ⟨rfl, rfl⟩, sub_picks [] rfl⟩

theorem Div64z_c {V : Mem} (lo y : Nat) (hl : lo < 18446744073709551616) (hy : y < 18446744073709551616) (h0 : 0 < y) : CallS Try.prog 220 [.int .u64 0, .int .u64 lo, .int .u64 y].toArray V [] (fun r L' => r = .tuple #[.int .u64 ((lo / y : Nat) : Int), .int .u64 ((lo % y : Nat) : Int)] ∧ L' = []) := by
 refine callS Try.func220 rfl rfl (fun w0 => ?_); refine s_seq (s_region ?_); refine ov (y_assign (v := .int _ _) rfl) ?_; refine ov (y_assign (v := .int _ _) rfl) (o_nil ?_); refine s_seq ?_; refine s_seq (s_region ?_); refine ov (y_move (v := .int _ _) rfl) ?_; refine ov (y_eql rfl rfl) (o_nil ?_); refine s_if rfl (fun h1 => ?_) (fun h2 => ?_)
 ·exact absurd h1 (by omega)
 ·refine s_skip ?_; refine s_seq ?_; refine s_seq (s_region ?_); refine ov (y_move (v := .int _ _) rfl) ?_; refine ov (y_move (v := .int _ _) rfl) ?_; refine ov (y_leq rfl rfl) (o_nil ?_); refine s_if rfl (fun h3 => ?_) (fun h4 => ?_)
  ·exact absurd h3 (by omega)
  ·refine s_skip ?_; refine s_seq ?_; refine s_seq (s_region ?_); refine ov (y_move (v := .int _ _) rfl) ?_; refine ov (y_eql rfl rfl) (o_nil ?_); refine s_if rfl (fun h5 => ?_) (fun h6 => ?_)
   ·refine s_seq ?_; refine s_quiet (by kernel_rfl) (by kernel_rfl) ?_; refine q_val rfl rfl rfl (y_move (v := .int _ _) rfl) ?_; refine q_val rfl rfl rfl (y_move (v := .int _ _) rfl) ?_; refine q_val rfl rfl rfl ((y_quo rfl rfl (⟨by omega, by omega, u64_in hl⟩)).int (rfl)) ?_; refine q_val rfl rfl rfl (y_move (v := .int _ _) rfl) ?_; refine q_val rfl rfl rfl (y_move (v := .int _ _) rfl) ?_; refine q_val rfl rfl rfl ((y_rem rfl rfl (⟨by omega, by omega⟩)).int (rfl)) ?_; refine q_val rfl rfl rfl (y_assign (v := .int _ _) rfl) ?_; refine q_val rfl rfl rfl (y_assign (v := .int _ _) rfl) ?_; refine q_nil ?_; refine s_forget [(0, .int _ _), (1, .int _ _), (2, .int _ _), (6, .int _ _), (7, .int _ _)] ⟨rfl, rfl, rfl, rfl, rfl, trivial⟩ (fun _f => ?_); refine s_ret ?_; exact ⟨_, [], res2 rfl rfl rfl, ⟨rfl, rfl⟩, sub_picks [] rfl⟩
   ·exact absurd rfl h6

theorem MulDivZ_c {V : Mem} (a b c : Int) (hP : absP a b < 18446744073709551616) : CallS Try.prog 212 [.int .i64 a, .int .i64 b, .int .i64 c].toArray V [] (fun r L' => r = .int .i64 (mdF a b c) ∧ L' = []) := by
 refine callS Try.func212 rfl rfl (fun w0 => ?_); refine s_seq (s_region ?_); refine ov (y_assign (v := .int _ _) rfl) (o_nil ?_); refine s_seq (s_region ?_); refine ov (y_move (v := .int _ _) rfl) ?_; refine o_fn 0 (d := 15) rfl Try.call213 (Clamp_c a) rfl ?_; rintro _ _ ⟨rfl, rfl⟩; have hca := clF_bd a; refine ov (y_move (v := .int _ _) rfl) ?_; refine o_fn 0 (d := 17) rfl Try.call213 (Clamp_c b) rfl ?_; rintro _ _ ⟨rfl, rfl⟩; have hcb := clF_bd b; refine ov (y_move (v := .int _ _) rfl) ?_; refine o_fn 0 (d := 19) rfl Try.call213 (Clamp_c c) rfl ?_; rintro _ _ ⟨rfl, rfl⟩; have hcc := clF_bd c; refine ov (y_assign (v := .int _ _) rfl) ?_; refine ov (y_assign (v := .int _ _) rfl) ?_; refine ov (y_assign (v := .int _ _) rfl) (o_nil ?_); refine s_seq ?_; refine s_seq (s_region ?_); refine ov (y_move (v := .int _ _) rfl) ?_; refine ov (y_eql rfl rfl) (o_nil ?_); refine s_if rfl (fun h1 => ?_) (fun h2 => ?_)
 ·have hc0 := h1; refine s_seq (s_region ?_); refine ov (y_assign (v := .int _ _) rfl) (o_nil ?_); refine s_ret ?_; exact ⟨_, [], res1 rfl rfl, ⟨congrArg (Value.int .i64) (mdF_zero hc0).symm, rfl⟩, sub_picks [] rfl⟩
 ·have hc0 := h2; refine s_skip ?_; refine s_seq (s_region ?_); refine ov (y_move (v := .int _ _) rfl) ?_; refine ov (y_lss rfl rfl) ?_; refine ov (y_assign (v := .bool _) rfl) (o_nil ?_); refine s_forget [(0, .int _ _), (1, .int _ _), (2, .int _ _), (6, .int _ _), (7, .bool _)] ⟨rfl, rfl, rfl, rfl, rfl, trivial⟩ (fun _f => ?_); refine s_joinK (γ := Bool) [(0, .int _ _), (1, .int _ _), (2, .int _ _), (6, .int _ _)] [] (fun u => [(7, .bool u)]) (fun u => []) (fun u => u = xor (decide (clF a < 0)) (decide (clF b < 0))) ⟨rfl, rfl, rfl, rfl, trivial⟩ [] rfl ?_ ?_
  ·refine s_seq (s_region ?_); refine ov (y_move (v := .int _ _) rfl) ?_; refine ov (y_lss rfl rfl) (o_nil ?_); refine s_if rfl (fun h3 => ?_) (fun h4 => ?_)
   ·have hb := h3; refine s_region ?_; refine ov (y_move (v := .bool _) rfl) ?_; refine ov (y_not rfl) ?_; refine ov (y_assign (v := .bool _) rfl) (o_nil ?_); exact ⟨(xor (decide (clF a < 0)) (decide (clF b < 0))), rfl, ⟨(congrArg Value.bool (by rw [decide_eq_true hb, Bool.xor_true, decide_not])), rfl, rfl, rfl, rfl, trivial⟩, (sub_picks [] rfl)⟩
   ·have hb := h4; refine s_skip ?_; exact ⟨(xor (decide (clF a < 0)) (decide (clF b < 0))), rfl, ⟨(congrArg Value.bool (by rw [decide_eq_false hb, Bool.xor_false])), rfl, rfl, rfl, rfl, trivial⟩, (sub_picks [] rfl)⟩
  intro u _f hu; refine s_joinK (γ := Bool) [(0, .int _ _), (1, .int _ _), (2, .int _ _), (6, .int _ _)] [] (fun v => [(7, .bool v)]) (fun v => []) (fun v => v = neg3 a b c) ⟨rfl, rfl, rfl, rfl, trivial⟩ [] rfl ?_ ?_
  ·refine s_seq (s_region ?_); refine ov (y_move (v := .int _ _) rfl) ?_; refine ov (y_lss rfl rfl) (o_nil ?_); refine s_if rfl (fun h5 => ?_) (fun h6 => ?_)
   ·have hc := h5; refine s_region ?_; refine ov (y_move (v := .bool _) rfl) ?_; refine ov (y_notb rfl) ?_; refine ov (y_assign (v := .bool _) rfl) (o_nil ?_); exact ⟨(xor u (decide (clF c < 0))), (by rw [hu]; rfl), ⟨(congrArg Value.bool (by rw [decide_eq_true hc, Bool.xor_true])), rfl, rfl, rfl, rfl, trivial⟩, (sub_picks [] rfl)⟩
   ·have hc := h6; refine s_skip ?_; exact ⟨(xor u (decide (clF c < 0))), (by rw [hu]; rfl), ⟨(congrArg Value.bool (by rw [decide_eq_false hc, Bool.xor_false])), rfl, rfl, rfl, rfl, trivial⟩, (sub_picks [] rfl)⟩
  intro v _f hv; refine s_seq (s_region ?_); refine ov (y_move (v := .int _ _) rfl) ?_; refine o_fn 0 (d := 33) rfl Try.call218 (mag_c (clF c) hcc) rfl ?_; rintro _ _ ⟨rfl, rfl⟩; refine ov (y_assign (v := .int _ _) rfl) (o_nil ?_); refine s_seq (s_region ?_); refine ov (y_move (v := .int _ _) rfl) ?_; refine o_fn 0 (d := 36) rfl Try.call218 (mag_c (clF a) hca) rfl ?_; rintro _ _ ⟨rfl, rfl⟩; refine ov (y_move (v := .int _ _) rfl) ?_; refine o_fn 0 (d := 38) rfl Try.call218 (mag_c (clF b) hcb) rfl ?_; rintro _ _ ⟨rfl, rfl⟩; refine o_fn 0 (d := 39) rfl Try.call219 (Mul64_c (clF a).natAbs (clF b).natAbs (by omega) (by omega)) rfl ?_; rintro _ _ ⟨rfl, rfl⟩; have hz : (clF a).natAbs * (clF b).natAbs / 18446744073709551616 = 0 := Nat.div_eq_of_lt hP; have hm : (clF a).natAbs * (clF b).natAbs % 18446744073709551616 = absP a b := Nat.mod_eq_of_lt hP; rw [hz, hm]; refine ov (y_move (v := (.tuple #[(.int _ _), (.int _ _)])) rfl) ?_; refine ov (y_extract (v := .int _ _) rfl rfl) ?_; refine ov (y_extract (v := .int _ _) rfl rfl) ?_; refine ov (y_assign (v := .int _ _) rfl) ?_; refine ov (y_assign (v := .int _ _) rfl) (o_nil ?_); refine s_forget [(6, .int _ _), (7, .bool _), (8, .int _ _), (9, .int _ _), (10, .int _ _)] ⟨rfl, rfl, rfl, rfl, rfl, trivial⟩ (fun _f => ?_); refine s_seq ?_; refine s_seq (s_region ?_); refine ov (y_move (v := .int _ _) rfl) ?_; refine ov (y_move (v := .int _ _) rfl) ?_; refine ov (y_geq rfl rfl) (o_nil ?_); refine s_if rfl (fun h7 => ?_) (fun h8 => ?_)
  ·exact absurd h7 (by omega)
  ·refine s_skip ?_; refine s_seq (s_region ?_); refine ov (y_move (v := .int _ _) rfl) ?_; refine ov (y_move (v := .int _ _) rfl) ?_; refine ov (y_move (v := .int _ _) rfl) ?_; refine o_fn 0 (d := 50) rfl Try.call220 (Div64z_c (absP a b) (clF c).natAbs hP (by omega) (by omega)) rfl ?_; rintro _ _ ⟨rfl, rfl⟩; refine ov (y_move (v := (.tuple #[(.int _ _), (.int _ _)])) rfl) ?_; refine ov (y_extract (v := .int _ _) rfl rfl) ?_; refine ov (y_extract (v := .int _ _) rfl rfl) ?_; refine ov (y_assign (v := .int _ _) rfl) ?_; refine ov (y_assign (v := .int _ _) rfl) (o_nil ?_); refine s_joinK (γ := Unit) [(6, .int _ _), (7, .bool _), (8, .int _ _)] [] (fun w => [(11, .int .u64 ((qF (absP a b) (clF c).natAbs : Nat) : Int)), (12, .int .u64 ((rF (absP a b) (clF c).natAbs : Nat) : Int))]) (fun w => []) (fun w => True) ⟨rfl, rfl, rfl, trivial⟩ [] rfl ?_ ?_
   ·refine s_seq (s_region ?_); refine ov (y_move (v := .int _ _) rfl) ?_; refine ov (y_gtr rfl rfl) (o_nil ?_); refine s_forget [(6, .int _ _), (7, .bool _), (8, .int _ _), (11, .int _ _), (12, .int _ _), (54, .bool _)] ⟨rfl, rfl, rfl, rfl, rfl, rfl, trivial⟩ (fun _f => ?_); refine s_if rfl (fun h9 => ?_) (fun h10 => ?_)
    ·refine s_seq (s_region ?_); refine ov (y_assign (v := .int _ _) rfl) (o_nil ?_); refine s_region ?_; refine ov (y_assign (v := .int _ _) rfl) (o_nil ?_); exact ⟨(), trivial, ⟨(congrArg (Value.int .u64) (by unfold qF; rw [if_pos (by omega)]; rfl)), (congrArg (Value.int .u64) (by unfold rF; rw [if_pos (by omega)]; rfl)), rfl, rfl, rfl, trivial⟩, (sub_picks [] rfl)⟩
    ·refine s_skip ?_; exact ⟨(), trivial, ⟨(congrArg (Value.int .u64) (by unfold qF; rw [if_neg (by omega)])), (congrArg (Value.int .u64) (by unfold rF; rw [if_neg (by omega)])), rfl, rfl, rfl, trivial⟩, (sub_picks [] rfl)⟩
   intro w _f hw; have hr := rF_lt (P := absP a b) (D := (clF c).natAbs) (by omega); have hq := qF_le (P := absP a b) (D := (clF c).natAbs); refine s_seq (s_region ?_); refine ov (y_move (v := .int _ _) rfl) ?_; refine ov (y_conv Try.runUnderlying86 Try.runUnderlying3 rfl (by simp only [inK]; omega)) ?_; refine ov (y_assign (v := .int _ _) rfl) (o_nil ?_); refine s_seq ?_; refine s_seq (s_region ?_); refine ov (y_move (v := .bool _) rfl) ?_; refine ov (y_notb rfl) (o_nil ?_); refine s_ifb rfl (fun h11 => ?_) (fun h12 => ?_)
   ·have hs : v = false := by cases v <;> simp_all
    refine s_seq ?_; refine s_seq (s_region ?_); refine ov (y_move (v := .int _ _) rfl) ?_; refine ov (y_move (v := .int _ _) rfl) ?_; refine ov (y_move (v := .int _ _) rfl) ?_; refine ov (y_sub rfl rfl (by simp only [inK]; omega)) ?_; refine ov (y_geq rfl rfl) (o_nil ?_); refine s_forget [(6, .int _ _), (8, .int _ _), (12, .int _ _), (13, .int _ _), (63, .bool _)] ⟨rfl, rfl, rfl, rfl, rfl, trivial⟩ (fun _f => ?_); refine s_if rfl (fun h13 => ?_) (fun h14 => ?_)
    ·refine s_region ?_; refine ov (y_move (v := .int _ _) rfl) ?_; refine ov (y_add rfl rfl (by simp only [inK]; omega)) ?_; refine ov (y_assign (v := .int _ _) rfl) (o_nil ?_); refine s_seq (s_region ?_); refine ov (y_move (v := .int _ _) rfl) ?_; refine o_fn 0 (d := 67) rfl Try.call213 (Clamp_c _) rfl ?_; rintro _ _ ⟨rfl, rfl⟩; refine ov (y_assign (v := .int _ _) rfl) (o_nil ?_); refine s_ret ?_; have hD : ¬ (clF c).natAbs ≤ absP a b / 18446744073709551616 := by rw [show absP a b / 18446744073709551616 = 0 from hz]; omega
     exact ⟨_, [], res1 rfl rfl, ⟨congrArg (Value.int .i64) (by rw [mdF_eq hc0 hD, ← hv, hs, if_neg (by decide), if_pos (by omega)] <;> first | done | rfl), rfl⟩, sub_picks [] rfl⟩
    ·refine s_skip ?_; refine s_seq (s_region ?_); refine ov (y_move (v := .int _ _) rfl) ?_; refine o_fn 0 (d := 67) rfl Try.call213 (Clamp_c _) rfl ?_; rintro _ _ ⟨rfl, rfl⟩; refine ov (y_assign (v := .int _ _) rfl) (o_nil ?_); refine s_ret ?_; have hD : ¬ (clF c).natAbs ≤ absP a b / 18446744073709551616 := by rw [show absP a b / 18446744073709551616 = 0 from hz]; omega
     exact ⟨_, [], res1 rfl rfl, ⟨congrArg (Value.int .i64) (by rw [mdF_eq hc0 hD, ← hv, hs, if_neg (by decide), if_neg (by omega)] <;> first | done | rfl), rfl⟩, sub_picks [] rfl⟩
   ·have hs : v = true := by cases v <;> simp_all
    refine s_skip ?_; refine s_seq ?_; refine s_seq (s_region ?_); refine ov (y_move (v := .int _ _) rfl) ?_; refine ov (y_move (v := .int _ _) rfl) ?_; refine ov (y_move (v := .int _ _) rfl) ?_; refine ov (y_sub rfl rfl (by simp only [inK]; omega)) ?_; refine ov (y_gtr rfl rfl) (o_nil ?_); refine s_forget [(6, .int _ _), (13, .int _ _), (72, .bool _)] ⟨rfl, rfl, rfl, trivial⟩ (fun _f => ?_); refine s_if rfl (fun h15 => ?_) (fun h16 => ?_)
    ·refine s_region ?_; refine ov (y_move (v := .int _ _) rfl) ?_; refine ov (y_add rfl rfl (by simp only [inK]; omega)) ?_; refine ov (y_assign (v := .int _ _) rfl) (o_nil ?_); refine s_seq (s_region ?_); refine ov (y_move (v := .int _ _) rfl) ?_; refine ov (y_neg rfl (by simp only [inK]; omega)) ?_; refine o_fn 0 (d := 77) rfl Try.call213 (Clamp_c _) rfl ?_; rintro _ _ ⟨rfl, rfl⟩; refine ov (y_assign (v := .int _ _) rfl) (o_nil ?_); refine s_ret ?_; have hD : ¬ (clF c).natAbs ≤ absP a b / 18446744073709551616 := by rw [show absP a b / 18446744073709551616 = 0 from hz]; omega
     exact ⟨_, [], res1 rfl rfl, ⟨congrArg (Value.int .i64) (by rw [mdF_eq hc0 hD, ← hv, hs, if_pos rfl, if_pos (by omega)] <;> first | done | rfl), rfl⟩, sub_picks [] rfl⟩
    ·refine s_skip ?_; refine s_seq (s_region ?_); refine ov (y_move (v := .int _ _) rfl) ?_; refine ov (y_neg rfl (by simp only [inK]; omega)) ?_; refine o_fn 0 (d := 77) rfl Try.call213 (Clamp_c _) rfl ?_; rintro _ _ ⟨rfl, rfl⟩; refine ov (y_assign (v := .int _ _) rfl) (o_nil ?_); refine s_ret ?_; have hD : ¬ (clF c).natAbs ≤ absP a b / 18446744073709551616 := by rw [show absP a b / 18446744073709551616 = 0 from hz]; omega
     exact ⟨_, [], res1 rfl rfl, ⟨congrArg (Value.int .i64) (by rw [mdF_eq hc0 hD, ← hv, hs, if_pos rfl, if_neg (by omega)] <;> first | done | rfl), rfl⟩, sub_picks [] rfl⟩

/-- The products that MulDiv makes. -/
def mulF (a b : Int) : Int := mdF a b 65536
def divF (a b : Int) : Int := if b = 0 then 0 else mdF a 65536 b

theorem FMulZ_c {V : Mem} (a b : Int) (hP : absP a b < 18446744073709551616) : CallS Try.prog 182 [.int .i64 a, .int .i64 b].toArray V [] (fun r L' => r = .int .i64 (mulF a b) ∧ L' = []) := by
 refine callS Try.func182 rfl rfl (fun w0 => ?_); refine s_seq (s_region ?_); refine ov (y_assign (v := .int _ _) rfl) (o_nil ?_); refine s_seq (s_region ?_); refine ov (y_move (v := .int _ _) rfl) ?_; refine ov (y_move (v := .int _ _) rfl) ?_; refine o_fn 0 (d := 7) rfl Try.call212 (MulDivZ_c a b 65536 hP) rfl ?_; rintro _ _ ⟨rfl, rfl⟩; refine ov (y_assign (v := .int _ _) rfl) (o_nil ?_); refine s_ret ?_; exact ⟨_, [], res1 rfl rfl, ⟨rfl, rfl⟩, sub_picks [] rfl⟩

theorem FDivZ_c {V : Mem} (a b : Int) (hP : absP a 65536 < 18446744073709551616) : CallS Try.prog 181 [.int .i64 a, .int .i64 b].toArray V [] (fun r L' => r = .tuple #[.int .i64 (divF a b), .int .i64 (if b = 0 then 17 else 0)] ∧ L' = []) := by
 refine callS Try.func181 rfl rfl (fun w0 => ?_); refine s_seq (s_region ?_); refine ov (y_assign (v := .int _ _) rfl) ?_; refine ov (y_assign (v := .int _ _) rfl) (o_nil ?_); refine s_seq ?_; refine s_seq (s_region ?_); refine ov (y_move (v := .int _ _) rfl) ?_; refine ov (y_eql rfl rfl) (o_nil ?_); refine s_if rfl (fun h1 => ?_) (fun h2 => ?_)
 ·have hb := h1; refine s_seq (s_region ?_); refine ov (y_assign (v := .int _ _) rfl) ?_; refine ov (y_assign (v := .int _ _) rfl) (o_nil ?_); refine s_ret ?_; exact ⟨_, [], res2 rfl rfl rfl, ⟨by unfold divF; rw [if_pos hb, if_pos hb]; rfl, rfl⟩, sub_picks [] rfl⟩
 ·have hb := h2; refine s_skip ?_; refine s_seq (s_region ?_); refine ov (y_move (v := .int _ _) rfl) ?_; refine ov (y_move (v := .int _ _) rfl) ?_; refine o_fn 0 (d := 10) rfl Try.call212 (MulDivZ_c a 65536 b hP) rfl ?_; rintro _ _ ⟨rfl, rfl⟩; refine ov (y_assign (v := .int _ _) rfl) ?_; refine ov (y_assign (v := .int _ _) rfl) (o_nil ?_); refine s_ret ?_; exact ⟨_, [], res2 rfl rfl rfl, ⟨by unfold divF; rw [if_neg hb, if_neg hb]; rfl, rfl⟩, sub_picks [] rfl⟩

end Go.Proofs.Ytacmbiohjiogiaa.K
end
section
set_option linter.unusedVariables false
set_option linter.unusedSimpArgs false
set_option maxRecDepth 100000
set_option maxHeartbeats 2000000
namespace Go.Proofs.Ytacmbiohjiogiaa.K
open Go.RowKit

/-- A number kept in bounds. -/
def wi (n lo hi : Int) : Int := min (max n lo) hi
theorem wi_bd {n lo hi : Int} (h : lo ≤ hi) : lo ≤ wi n lo hi ∧ wi n lo hi ≤ hi := by unfold wi; omega
/-- A body as plain values. -/
structure BoD where
 px : Int
 py : Int
 vx : Int
 vy : Int
 an : Int
 sp : Int
 ma : Int
 ie : Int
 bo : Int
 ru : Int
 co : List (Int × Int)
 aw : Bool
 ca : Int
deriving DecidableEq
instance : Inhabited BoD := ⟨⟨0, 0, 0, 0, 0, 0, 0, 0, 0, 0, [], false, 0⟩⟩
/-- A body, and where its corners are. -/
structure BoR where
 d : BoD
 A : Option Addr
 n : Nat
 c : Nat
instance : Inhabited BoR := ⟨⟨default, none, 0, 0⟩⟩
def encV2 (p : Int × Int) : List Value := [.int .i64 p.1, .int .i64 p.2]
theorem encV2_len (p : Int × Int) : (encV2 p).length = 2 := rfl
def encBo (b : BoR) : List Value := [.int .i64 b.d.px, .int .i64 b.d.py, .int .i64 b.d.vx, .int .i64 b.d.vy, .int .i64 b.d.an, .int .i64 b.d.sp, .int .i64 b.d.ma, .int .i64 b.d.ie, .int .i64 b.d.bo, .int .i64 b.d.ru, .slice b.A b.n b.c, .bool b.d.aw, .int .i64 b.d.ca]
theorem encBo_len (b : BoR) : (encBo b).length = 13 := rfl
def BoOK (V : Mem) (b : BoR) : Prop := b.d.co.length = b.n ∧ b.n ≤ b.c ∧ b.n ≤ 8796093022208 ∧ Cels V [] b.A (b.d.co.flatMap encV2)
theorem BoOK.sub {V V' : Mem} {b : BoR} (h : BoOK V b) (hm : MSub V V') : BoOK V' b := ⟨h.1, h.2.1, h.2.2.1, h.2.2.2.ms hm⟩
def wS (s : List Int) : Int := wi (s.getD 0 0) 4096 1048576
def hS (s : List Int) : Int := wi (s.getD 1 0) 4096 1048576
def coS4 (w h : Int) : List (Int × Int) := [(-w, -h), (w, -h), (w, h), (-w, h)]
def statD (p s : List Int) : BoD := ⟨wi (p.getD 0 0) (-58982400) 58982400, wi (p.getD 1 0) (-58982400) 58982400, 0, 0, ((p.getD 2 0).tmod 65536 + 65536).tmod 65536, 0, 0, 0, wi (s.getD 3 0) 0 65536, wi (s.getD 4 0) 0 65536, coS4 (wS s) (hS s), false, 0⟩
def maS (s : List Int) : Int := wi (s.getD 2 0) 4096 65536000
def inerF (m w h : Int) : Int := divF (mulF m (clF (clF (mulF w w) + clF (mulF h h)))) 196608
def asF (v : List Int) : Bool := decide (0 < v.getD 3 0) && decide ((v.getD 3 0).tmod 2 = 1) && decide (wi (v.getD 0 0) (-268435456) 268435456 = 0 ∧ wi (v.getD 1 0) (-268435456) 268435456 = 0) && decide (wi (v.getD 2 0) (-16777216) 16777216 = 0)
def dynD (p s v : List Int) : BoD := ⟨wi (p.getD 0 0) (-58982400) 58982400, wi (p.getD 1 0) (-58982400) 58982400, wi (v.getD 0 0) (-268435456) 268435456, wi (v.getD 1 0) (-268435456) 268435456, ((p.getD 2 0).tmod 65536 + 65536).tmod 65536, wi (v.getD 2 0) (-16777216) 16777216, maS s, max (inerF (maS s) (wS s) (hS s)) 1, wi (s.getD 3 0) 0 65536, wi (s.getD 4 0) 0 65536, coS4 (wS s) (hS s), asF v, wi ((v.getD 3 0).tdiv 2) 0 1000⟩
/-- The body that values describe. -/
def bodyD (p s : List Int) (v : Option (List Int)) : BoD :=
 match v with
 | none => statD p s
 | some v => if s.getD 2 0 < 1 then statD p s else dynD p s v
def bodyO (cs : List CR) (m : Int × Int × Int) : Option BoD :=
 match fc cs m.1, fc cs m.2.2 with
 | some p, some s => some (bodyD p s (fc cs m.2.1))
 | _, _ => none
theorem fc_some {cs : List CR} {k : Int} {c : CR} (h : findC cs k = some c) : fc cs k = some c.vs := by unfold fc; rw [h]; rfl
theorem fc_none {cs : List CR} {k : Int} (h : findC cs k = none) : fc cs k = none := by unfold fc; rw [h]; rfl
theorem bodyO_p {cs : List CR} {m : Int × Int × Int} (h : findC cs m.1 = none) : bodyO cs m = none := by unfold bodyO; rw [fc_none h]
theorem bodyO_s {cs : List CR} {m : Int × Int × Int} (h : findC cs m.2.2 = none) : bodyO cs m = none := by
 unfold bodyO; rw [fc_none h]; cases fc cs m.1 <;> rfl
theorem bodyO_v {cs : List CR} {m : Int × Int × Int} {p s : CR} (hp : findC cs m.1 = some p) (hs : findC cs m.2.2 = some s) (hv : findC cs m.2.1 = none) : bodyO cs m = some (statD p.vs s.vs) := by
 unfold bodyO; rw [fc_some hp, fc_some hs, fc_none hv]; rfl
theorem bodyO_st {cs : List CR} {m : Int × Int × Int} {p s v : CR} (hp : findC cs m.1 = some p) (hs : findC cs m.2.2 = some s) (hv : findC cs m.2.1 = some v) (h : s.vs.getD 2 0 < 1) : bodyO cs m = some (statD p.vs s.vs) := by
 unfold bodyO; rw [fc_some hp, fc_some hs, fc_some hv]; exact congrArg some (if_pos h)
theorem bodyO_dy {cs : List CR} {m : Int × Int × Int} {p s v : CR} (hp : findC cs m.1 = some p) (hs : findC cs m.2.2 = some s) (hv : findC cs m.2.1 = some v) (h : ¬ s.vs.getD 2 0 < 1) : bodyO cs m = some (dynD p.vs s.vs v.vs) := by
 unfold bodyO; rw [fc_some hp, fc_some hs, fc_some hv]; exact congrArg some (if_neg h)
theorem find_mem {cs : List CR} {k : Int} {c : CR} (h : findC cs k = some c) : c ∈ cs := List.mem_of_find?_eq_some h
theorem cok_some {V : Mem} {c : CR} (h : COK V c) (hl : 0 < c.vs.length) : c.A ≠ none := fun e => by
 have h1 := h.2.2.2.isSome (i := 0) (by simpa using hl); rw [e] at h1; cases h1
/-- What the values of a body's components are long. -/
def longB (cs : List CR) (m : Int × Int × Int) : Prop := (∀ c, findC cs m.1 = some c → 3 ≤ c.vs.length) ∧ (∀ c, findC cs m.2.1 = some c → 4 ≤ c.vs.length ∧ -8589934592 ≤ c.vs.getD 3 0 ∧ c.vs.getD 3 0 ≤ 8589934592) ∧ (∀ c, findC cs m.2.2 = some c → 5 ≤ c.vs.length)
theorem mdF_abs {a b c : Int} (h : ¬ clF c = 0) (hP : absP a b < 18446744073709551616) : (mdF a b c).natAbs ≤ absP a b / (clF c).natAbs + 1 := by
 rw [mdF_eq h (by rw [Nat.div_eq_of_lt hP]; omega)]; have h1 : qF (absP a b) (clF c).natAbs ≤ absP a b / (clF c).natAbs := by unfold qF; split <;> omega
 generalize (clF c).natAbs = D at *
 generalize absP a b = P at *
 generalize qF P D = q at *
 generalize rF P D = r at *
 generalize P / D = z at *
 unfold clF
 split <;> split <;> omega
theorem absP_le {a b : Int} {x y : Nat} (ha : a.natAbs ≤ x) (hb : b.natAbs ≤ y) : absP a b ≤ x * y := Nat.mul_le_mul (show (clF a).natAbs ≤ x by unfold clF; omega) (show (clF b).natAbs ≤ y by unfold clF; omega)
theorem mul_small {w : Int} (h : 4096 ≤ w ∧ w ≤ 1048576) : absP w w < 18446744073709551616 ∧ (mulF w w).natAbs ≤ 16777217 := by
 have h1 := absP_le (a := w) (b := w) (x := 1048576) (y := 1048576) (by omega) (by omega); have h2 := mdF_abs (a := w) (b := w) (c := 65536) (by decide) (by omega); rw [show (clF 65536).natAbs = 65536 from by decide] at h2; exact ⟨by omega, by unfold mulF; omega⟩
theorem iner_small {m w h : Int} (hm : 4096 ≤ m ∧ m ≤ 65536000) (hw : 4096 ≤ w ∧ w ≤ 1048576) (hh : 4096 ≤ h ∧ h ≤ 1048576) : absP m (clF (clF (mulF w w) + clF (mulF h h))) < 18446744073709551616 := by
 have h1 := (mul_small hw).2; have h2 := (mul_small hh).2; have h3 := absP_le (a := m) (b := clF (clF (mulF w w) + clF (mulF h h))) (x := 65536000) (y := 33554434) (by omega) (by unfold clF; omega); omega
theorem div_small (a : Int) : absP a 65536 < 18446744073709551616 := by
 have h1 := clF_bd a; have h2 : absP a 65536 ≤ 1099511627776 * 65536 := Nat.mul_le_mul (show (clF a).natAbs ≤ 1099511627776 by omega) (show (clF 65536).natAbs ≤ 65536 by decide); omega

theorem within_c {V : Mem} (n lo hi : Int) : CallS Try.prog 139 [.int .i64 n, .int .i64 lo, .int .i64 hi].toArray V [] (fun r L' => r = .int .i64 (wi n lo hi) ∧ L' = []) := by
 refine callS Try.func139 rfl rfl (fun w0 => ?_); refine s_seq (s_region ?_); refine ov (y_assign (v := .int _ _) rfl) (o_nil ?_); refine s_seq (s_region ?_); refine ov (y_move (v := .int _ _) rfl) ?_; refine ov (y_move (v := .int _ _) rfl) ?_; refine ov (y_max rfl rfl) ?_; refine ov (y_move (v := .int _ _) rfl) ?_; refine ov (y_min rfl rfl) ?_; refine ov (y_assign (v := .int _ _) rfl) (o_nil ?_); refine s_ret ?_; exact ⟨_, [], res1 rfl rfl, ⟨rfl, rfl⟩, sub_picks [] rfl⟩

theorem near_c {V : Mem} (n lo hi : Int) (h : lo ≤ hi) : CallS Try.prog 142 [.int .i64 n, .int .i64 lo, .int .i64 hi].toArray V [] (fun r L' => r = .int .i64 (wi n lo hi) ∧ L' = []) := by
 refine callS Try.func142 rfl rfl (fun w0 => ?_); refine s_seq (s_region ?_); refine ov (y_assign (v := .int _ _) rfl) (o_nil ?_); refine s_seq ?_; refine s_seq (s_region ?_); refine ov (y_move (v := .int _ _) rfl) ?_; refine ov (y_move (v := .int _ _) rfl) ?_; refine ov (y_lss rfl rfl) (o_nil ?_); refine s_if rfl (fun h1 => ?_) (fun h2 => ?_)
 ·refine s_seq (s_region ?_); refine ov (y_move (v := .int _ _) rfl) ?_; refine ov (y_assign (v := .int _ _) rfl) (o_nil ?_); refine s_ret ?_; exact ⟨_, [], res1 rfl rfl, ⟨congrArg (Value.int .i64) (by unfold wi; omega), rfl⟩, sub_picks [] rfl⟩
 ·refine s_skip ?_; refine s_seq ?_; refine s_seq (s_region ?_); refine ov (y_move (v := .int _ _) rfl) ?_; refine ov (y_move (v := .int _ _) rfl) ?_; refine ov (y_gtr rfl rfl) (o_nil ?_); refine s_if rfl (fun h3 => ?_) (fun h4 => ?_)
  ·refine s_seq (s_region ?_); refine ov (y_move (v := .int _ _) rfl) ?_; refine ov (y_assign (v := .int _ _) rfl) (o_nil ?_); refine s_ret ?_; exact ⟨_, [], res1 rfl rfl, ⟨congrArg (Value.int .i64) (by unfold wi; omega), rfl⟩, sub_picks [] rfl⟩
  ·refine s_skip ?_; refine s_seq (s_region ?_); refine ov (y_move (v := .int _ _) rfl) ?_; refine ov (y_assign (v := .int _ _) rfl) (o_nil ?_); refine s_ret ?_; exact ⟨_, [], res1 rfl rfl, ⟨congrArg (Value.int .i64) (by unfold wi; omega), rfl⟩, sub_picks [] rfl⟩

theorem find_hit1 {α : Type} [Inhabited α] {q : α → Prop} [∀ x, Decidable (q x)] {xs : List α} {g : Nat} (hg : g < xs.length) (h : ∀ j, j < g → ¬ q (xs.getD j default)) (hq : q (xs.getD g default)) : xs.find? (fun x => decide (q x)) = some (xs.getD g default) := by
 rw [List.getD_eq_getElem?_getD, List.getElem?_eq_getElem hg, Option.getD_some] at hq ⊢; rw [List.find?_eq_some_iff_getElem]; refine ⟨by simpa using hq, g, hg, rfl, fun i hi => ?_⟩; have := h i hi; rw [List.getD_eq_getElem?_getD, List.getElem?_eq_getElem (by omega), Option.getD_some] at this
 simpa using this
theorem find_miss1 {α : Type} [Inhabited α] {q : α → Prop} [∀ x, Decidable (q x)] {xs : List α} {g : Nat} (hg : g = xs.length) (h : ∀ j, j < g → ¬ q (xs.getD j default)) : xs.find? (fun x => decide (q x)) = none := by
 rw [List.find?_eq_none]; intro x hx; obtain ⟨j, hj, rfl⟩ := List.mem_iff_getElem.1 hx; have := h j (by omega); rw [List.getD_eq_getElem?_getD, List.getElem?_eq_getElem hj] at this
 simpa using this

theorem valsB_c {V : Mem} (x : IR) (hx : IOK V x) (k : Int) : CallS Try.prog 138 [.agg #[.int .i64 x.e, .int .i64 x.g, .slice x.A x.n x.c], .int .i64 k].toArray V [] (fun r L' => (findC x.cs k = none ∧ r = .slice none 0 0 ∧ L' = []) ∨ (∃ q, findC x.cs k = some q ∧ r = .slice q.A q.n q.c ∧ L' = [])) := by
 have hxl := hx.1; have hxb := hx.2.2.1; refine callS Try.func138 rfl rfl (fun w0 => ?_); refine s_seq (s_region ?_); refine o_box (v := (.agg #[(.int _ _), (.int _ _), (.slice _ _ _)])) rfl rfl rfl (fun b1 => ?_); refine ov (y_assign (v := .slice _ _ _) rfl) (o_nil ?_); refine s_seq ?_; refine s_seq (s_region ?_); refine ov (y_field0 Try.runUnderlying136 rfl Try.sizeOf33 rfl rfl) ?_; refine ov (y_load Try.isAgg33 rfl (cel_own 0 rfl rfl)) ?_; refine ov (y_len Try.runUnderlying33 rfl) ?_; refine ov (y_move (v := .int _ _) rfl) (o_nil ?_); refine s_block ?_; refine s_loopK (γ := Nat) [(1, .int _ _), (8, .slice _ _ _), (9, .int _ _)] [] (fun g => [(10, .int .i64 g)]) (fun g => []) (fun g => g ≤ x.n ∧ ∀ j, j < g → ¬ (fun y : CR => y.kind = k) (x.cs.getD j default)) (fun g => x.n - g) (0) ⟨rfl, rfl, rfl, rfl, trivial⟩ (sub_picks [] rfl) ?_ ?_
 ·exact ⟨Nat.zero_le _, fun j hj => absurd hj (Nat.not_lt_zero j)⟩
 intro g _f hI; obtain ⟨hg, hall⟩ := hI; refine s_seq (s_region ?_); refine ov (y_lss rfl rfl) (o_nil ?_); refine s_seq ?_; refine s_if rfl (fun h2 => ?_) (fun h3 => ?_)
 ·refine s_skip ?_; refine s_seq ?_; refine s_block ?_; refine s_seq (s_region ?_); refine ov (y_indexAddr Try.runUnderlying33 Try.sizeOf155 (some_at (sz := 1) encC_len (i := 0) hx.2.2.2.1 (by omega)) rfl rfl (by omega)) ?_; refine ov (y_loads (cs := [_, _]) Try.isAgg155 Try.sizeOf155 rfl (by unfold idx; rw [Option.isSome_map]; exact some_at (sz := 1) encC_len (i := 0) hx.2.2.2.1 (by omega)) rfl (cels_at (sz := 2) encC_len hx.2.2.2.1.here (by omega))) ?_; refine o_alloc rfl Try.zeroValue155 rfl (fun b4 => ?_); refine o_stores (vs := [(.int _ _), (.slice _ _ _)]) 0 rfl Try.sizeOf155 rfl rfl rfl (by simp [Value.oneCell']) (by simp) (o_nil ?_); refine s_seq (s_region ?_); refine ov (y_field0 Try.runUnderlying155 rfl Try.sizeOf3 rfl rfl) ?_; refine ov (y_load Try.isAgg3 rfl (cel_own 0 rfl rfl)) ?_; refine ov (y_move (v := .int _ _) rfl) ?_; refine ov (y_eql rfl rfl) (o_nil ?_); refine s_if rfl (fun h5 => ?_) (fun h6 => ?_)
  ·have hyes : (x.cs.getD ((g : Nat) : Int).toNat default).kind = k := h5; refine s_seq (s_region ?_); refine ov (y_field0 Try.runUnderlying155 rfl Try.sizeOf22 rfl rfl) ?_; refine ov (y_load Try.isAgg22 rfl (cel_own 0 rfl rfl)) ?_; refine ov (y_assign (v := .slice _ _ _) rfl) (o_nil ?_); refine s_forget [(1, .int _ _), (4, .slice _ _ _), (8, .slice _ _ _), (9, .int _ _), (10, .int _ _)] ⟨rfl, rfl, rfl, rfl, rfl, trivial⟩ (fun _f => ?_); refine s_ret ?_; have hfd : findC x.cs k = some (x.cs.getD ((g : Nat) : Int).toNat default) := find_hit1 (q := fun y : CR => y.kind = k) (show g < x.cs.length by omega) hall hyes; exact ⟨_, [], res1 rfl rfl, .inr ⟨(x.cs.getD ((g : Nat) : Int).toNat default), hfd, rfl, rfl⟩, sub_picks [] rfl⟩
  ·have hno : ¬ (x.cs.getD ((g : Nat) : Int).toNat default).kind = k := h6; refine s_skip ?_; refine s_region ?_; refine ov (y_add rfl rfl (by simp only [inK]; omega)) ?_; refine ov (y_move (v := .int _ _) rfl) (o_nil ?_); exact ⟨g + 1, (by first | omega | (dsimp only; omega)), ⟨by omega, all_next hall hno⟩, ⟨(congrArg (Value.int .i64) (by omega)), rfl, rfl, rfl, trivial⟩, (sub_picks [] rfl)⟩
 ·refine s_exit ?_; refine s_seq (s_region ?_); refine ov (y_assign (v := .slice _ _ _) rfl) (o_nil ?_); refine s_ret ?_; exact ⟨_, [], res1 rfl rfl, .inl ⟨find_miss1 (q := fun y : CR => y.kind = k) (by omega) hall, rfl, rfl⟩, sub_picks [] rfl⟩

end Go.Proofs.Ytacmbiohjiogiaa.K
end
section
set_option linter.unusedVariables false
set_option linter.unusedSimpArgs false
set_option maxRecDepth 100000
namespace Go.Proofs.Ytacmbiohjiogiaa.K
open Go.RowKit

theorem opens_vec {H : Type} {enc : TypeId × Value → H} {w : World} {base : Nat} {spare : Nat → Bool} {held : Bool} {Cn : TypeId → DataW H → Prop} {b : Nat} (hC : Cnd Try.prog b Cn) : Opens enc Try.prog w base spare held Cn 90 encV2 (fun _ => True) := by
 intro n cs x h hcn; obtain ⟨hl, hf⟩ := trod_struct_at hC Try.underlying90 h hcn; rw [show Try.prog.cellsOf 90 = 2 from by kernel_rfl] at hl
 match cs, hl with
 | [c0, c1], _ =>
  obtain ⟨n0, y0, t0, k0⟩ := hf 0 _ rfl; obtain ⟨a0, e0, r0⟩ := opens_field (opens_int Try.underlying3) (sz := 1) (cs' := [c0]) (by kernel_rfl) t0 k0 rfl; obtain rfl := (List.cons.inj e0).1; obtain ⟨n1, y1, t1, k1⟩ := hf 1 _ rfl; obtain ⟨a1, e1, r1⟩ := opens_field (opens_int Try.underlying3) (sz := 1) (cs' := [c1]) (by kernel_rfl) t1 k1 rfl; obtain rfl := (List.cons.inj e1).1; exact ⟨⟨a0, a1⟩, rfl, trivial⟩

theorem opens_co {H : Type} {enc : TypeId × Value → H} {w : World} {base : Nat} {spare : Nat → Bool} {held : Bool} {Cn : TypeId → DataW H → Prop} {b : Nat} (hC : Cnd Try.prog b Cn) : Opens enc Try.prog w base spare held Cn 120 encCo (fun _ => True) := by
 intro n cs x h hcn; obtain ⟨hl, hf⟩ := trod_struct_at hC Try.underlying120 h hcn; rw [show Try.prog.cellsOf 120 = 10 from by kernel_rfl] at hl
 match cs, hl with
 | [c0, c1, c2, c3, c4, c5, c6, c7, c8, c9], _ =>
  obtain ⟨n0, y0, t0, k0⟩ := hf 0 _ rfl; obtain ⟨a0, e0, r0⟩ := opens_field (opens_int Try.underlying3) (sz := 1) (cs' := [c0]) (by kernel_rfl) t0 k0 rfl; obtain rfl := (List.cons.inj e0).1; obtain ⟨n1, y1, t1, k1⟩ := hf 1 _ rfl; obtain ⟨a1, e1, r1⟩ := opens_field (opens_int Try.underlying3) (sz := 1) (cs' := [c1]) (by kernel_rfl) t1 k1 rfl; obtain rfl := (List.cons.inj e1).1; obtain ⟨n2, y2, t2, k2⟩ := hf 2 _ rfl; obtain ⟨a2, e2, r2⟩ := opens_field (opens_int Try.underlying3) (sz := 1) (cs' := [c2]) (by kernel_rfl) t2 k2 rfl; obtain rfl := (List.cons.inj e2).1; obtain ⟨n3, y3, t3, k3⟩ := hf 3 _ rfl; obtain ⟨p, e3, r3⟩ := opens_field (opens_vec hC) (sz := 2) (cs' := [c3, c4]) (by kernel_rfl) t3 k3 rfl; obtain ⟨rfl, rfl⟩ : c3 = .int .i64 p.1 ∧ c4 = .int .i64 p.2 := by simpa [encV2] using e3
  obtain ⟨n4, y4, t4, k4⟩ := hf 4 _ rfl; obtain ⟨q, e4, r4⟩ := opens_field (opens_vec hC) (sz := 2) (cs' := [c5, c6]) (by kernel_rfl) t4 k4 rfl; obtain ⟨rfl, rfl⟩ : c5 = .int .i64 q.1 ∧ c6 = .int .i64 q.2 := by simpa [encV2] using e4
  obtain ⟨n5, y5, t5, k5⟩ := hf 5 _ rfl; obtain ⟨a3, e5, r5⟩ := opens_field (opens_int Try.underlying3) (sz := 1) (cs' := [c7]) (by kernel_rfl) t5 k5 rfl; obtain rfl := (List.cons.inj e5).1; obtain ⟨n6, y6, t6, k6⟩ := hf 6 _ rfl; obtain ⟨a4, e6, r6⟩ := opens_field (opens_int Try.underlying3) (sz := 1) (cs' := [c8]) (by kernel_rfl) t6 k6 rfl; obtain rfl := (List.cons.inj e6).1; obtain ⟨n7, y7, t7, k7⟩ := hf 7 _ rfl; obtain ⟨a5, e7, r7⟩ := opens_field (opens_int Try.underlying3) (sz := 1) (cs' := [c9]) (by kernel_rfl) t7 k7 rfl; obtain rfl := (List.cons.inj e7).1; exact ⟨⟨a0, a1, a2, p.1, p.2, q.1, q.2, a3, a4, a5⟩, rfl, trivial⟩

end Go.Proofs.Ytacmbiohjiogiaa.K
end
section
set_option linter.unusedVariables false
set_option linter.unusedSimpArgs false
set_option maxRecDepth 100000
namespace Go.Proofs.Ytacmbiohjiogiaa.K
open Go.RowKit

structure JtR where
 a : Int
 b : Int
 p : Int × Int
 q : Int × Int
 l : Int
instance : Inhabited JtR := ⟨⟨0, 0, (0, 0), (0, 0), 0⟩⟩
def encJt (j : JtR) : List Value := [.int .i64 j.a, .int .i64 j.b, .int .i64 j.p.1, .int .i64 j.p.2, .int .i64 j.q.1, .int .i64 j.q.2, .int .i64 j.l]
theorem encJt_len (j : JtR) : (encJt j).length = 7 := rfl
structure SnR where
 bA : Option Addr
 bn : Nat
 bc : Nat
 bs : List BoR
 jA : Option Addr
 jn : Nat
 jc : Nat
 cA : Option Addr
 cn : Nat
 cc : Nat
 cs : List CoR
 gx : Int
 gy : Int
 sp : Int
def encSn (s : SnR) : List Value := [.slice s.bA s.bn s.bc, .slice s.jA s.jn s.jc, .slice s.cA s.cn s.cc, .int .i64 s.gx, .int .i64 s.gy, .int .i64 s.sp]
def SnOK (V : Mem) (s : SnR) : Prop := (s.bs.length = s.bn ∧ s.bn ≤ s.bc ∧ s.bn ≤ 1172812402961 ∧ Cels V [] s.bA (s.bs.flatMap encBo)) ∧ (s.cs.length = s.cn ∧ s.cn ≤ s.cc ∧ s.cn ≤ 1759218604441 ∧ Cels V [] s.cA (s.cs.flatMap encCo))


theorem opens_bo {H : Type} {enc : TypeId × Value → H} {w : World} {base : Nat} {spare : Nat → Bool} {held : Bool} {Cn : TypeId → DataW H → Prop} {b : Nat} (hC : Cnd Try.prog b Cn) : Opens enc Try.prog w base spare held Cn 113 encBo (fun _ => True) := by
 intro n cs x h hcn; obtain ⟨hl, hf⟩ := trod_struct_at hC Try.underlying113 h hcn; rw [show Try.prog.cellsOf 113 = 13 from by kernel_rfl] at hl
 match cs, hl with
 | [c0, c1, c2, c3, c4, c5, c6, c7, c8, c9, c10, c11, c12], _ =>
  obtain ⟨n0, y0, t0, k0⟩ := hf 0 _ rfl; obtain ⟨p, e0, r0⟩ := opens_field (opens_vec hC) (sz := 2) (cs' := [c0, c1]) (by kernel_rfl) t0 k0 rfl; obtain ⟨rfl, rfl⟩ : c0 = .int .i64 p.1 ∧ c1 = .int .i64 p.2 := by simpa [encV2] using e0
  obtain ⟨n1, y1, t1, k1⟩ := hf 1 _ rfl; obtain ⟨q, e1, r1⟩ := opens_field (opens_vec hC) (sz := 2) (cs' := [c2, c3]) (by kernel_rfl) t1 k1 rfl; obtain ⟨rfl, rfl⟩ : c2 = .int .i64 q.1 ∧ c3 = .int .i64 q.2 := by simpa [encV2] using e1
  obtain ⟨n2, y2, t2, k2⟩ := hf 2 _ rfl; obtain ⟨a0, e2, r2⟩ := opens_field (opens_int Try.underlying3) (sz := 1) (cs' := [c4]) (by kernel_rfl) t2 k2 rfl; obtain rfl := (List.cons.inj e2).1; obtain ⟨n3, y3, t3, k3⟩ := hf 3 _ rfl; obtain ⟨a1, e3, r3⟩ := opens_field (opens_int Try.underlying3) (sz := 1) (cs' := [c5]) (by kernel_rfl) t3 k3 rfl; obtain rfl := (List.cons.inj e3).1; obtain ⟨n4, y4, t4, k4⟩ := hf 4 _ rfl; obtain ⟨a2, e4, r4⟩ := opens_field (opens_int Try.underlying3) (sz := 1) (cs' := [c6]) (by kernel_rfl) t4 k4 rfl; obtain rfl := (List.cons.inj e4).1; obtain ⟨n5, y5, t5, k5⟩ := hf 5 _ rfl; obtain ⟨a3, e5, r5⟩ := opens_field (opens_int Try.underlying3) (sz := 1) (cs' := [c7]) (by kernel_rfl) t5 k5 rfl; obtain rfl := (List.cons.inj e5).1; obtain ⟨n6, y6, t6, k6⟩ := hf 6 _ rfl; obtain ⟨a4, e6, r6⟩ := opens_field (opens_int Try.underlying3) (sz := 1) (cs' := [c8]) (by kernel_rfl) t6 k6 rfl; obtain rfl := (List.cons.inj e6).1; obtain ⟨n7, y7, t7, k7⟩ := hf 7 _ rfl; obtain ⟨a5, e7, r7⟩ := opens_field (opens_int Try.underlying3) (sz := 1) (cs' := [c9]) (by kernel_rfl) t7 k7 rfl; obtain rfl := (List.cons.inj e7).1; obtain ⟨n8, y8, t8, k8⟩ := hf 8 _ rfl; obtain ⟨s, e8, r8⟩ := opens_field (opens_slice hC encV2_len (by decide) Try.underlying111 (by kernel_rfl) (by_ := 16) (by kernel_rfl) (opens_vec hC)) (sz := 1) (cs' := [c10]) (by kernel_rfl) t8 k8 rfl; obtain rfl := (List.cons.inj e8).1; obtain ⟨n9, y9, t9, k9⟩ := hf 9 _ rfl; obtain ⟨aw, e9, r9⟩ := opens_field (opens_bool Try.underlying4) (sz := 1) (cs' := [c11]) (by kernel_rfl) t9 k9 rfl; obtain rfl := (List.cons.inj e9).1; obtain ⟨n10, y10, t10, k10⟩ := hf 10 _ rfl; obtain ⟨a6, e10, r10⟩ := opens_field (opens_int Try.underlying3) (sz := 1) (cs' := [c12]) (by kernel_rfl) t10 k10 rfl; obtain rfl := (List.cons.inj e10).1; exact ⟨⟨⟨p.1, p.2, q.1, q.2, a0, a1, a2, a3, a4, a5, s.xs, aw, a6⟩, s.A, s.n, s.c⟩, rfl, trivial⟩

theorem opens_jt {H : Type} {enc : TypeId × Value → H} {w : World} {base : Nat} {spare : Nat → Bool} {held : Bool} {Cn : TypeId → DataW H → Prop} {b : Nat} (hC : Cnd Try.prog b Cn) : Opens enc Try.prog w base spare held Cn 345 encJt (fun _ => True) := by
 intro n cs x h hcn; obtain ⟨hl, hf⟩ := trod_struct_at hC Try.underlying345 h hcn; rw [show Try.prog.cellsOf 345 = 7 from by kernel_rfl] at hl
 match cs, hl with
 | [c0, c1, c2, c3, c4, c5, c6], _ =>
  obtain ⟨n0, y0, t0, k0⟩ := hf 0 _ rfl; obtain ⟨a0, e0, r0⟩ := opens_field (opens_int Try.underlying3) (sz := 1) (cs' := [c0]) (by kernel_rfl) t0 k0 rfl; obtain rfl := (List.cons.inj e0).1; obtain ⟨n1, y1, t1, k1⟩ := hf 1 _ rfl; obtain ⟨a1, e1, r1⟩ := opens_field (opens_int Try.underlying3) (sz := 1) (cs' := [c1]) (by kernel_rfl) t1 k1 rfl; obtain rfl := (List.cons.inj e1).1; obtain ⟨n2, y2, t2, k2⟩ := hf 2 _ rfl; obtain ⟨p, e2, r2⟩ := opens_field (opens_vec hC) (sz := 2) (cs' := [c2, c3]) (by kernel_rfl) t2 k2 rfl; obtain ⟨rfl, rfl⟩ : c2 = .int .i64 p.1 ∧ c3 = .int .i64 p.2 := by simpa [encV2] using e2
  obtain ⟨n3, y3, t3, k3⟩ := hf 3 _ rfl; obtain ⟨q, e3, r3⟩ := opens_field (opens_vec hC) (sz := 2) (cs' := [c4, c5]) (by kernel_rfl) t3 k3 rfl; obtain ⟨rfl, rfl⟩ : c4 = .int .i64 q.1 ∧ c5 = .int .i64 q.2 := by simpa [encV2] using e3
  obtain ⟨n4, y4, t4, k4⟩ := hf 4 _ rfl; obtain ⟨a2, e4, r4⟩ := opens_field (opens_int Try.underlying3) (sz := 1) (cs' := [c6]) (by kernel_rfl) t4 k4 rfl; obtain rfl := (List.cons.inj e4).1; exact ⟨⟨a0, a1, p, q, a2⟩, rfl, trivial⟩

theorem opens_sn {H : Type} {enc : TypeId × Value → H} {w : World} {base : Nat} {spare : Nat → Bool} {held : Bool} {Cn : TypeId → DataW H → Prop} {b : Nat} (hC : Cnd Try.prog b Cn) : Opens enc Try.prog w base spare held Cn 100 encSn (SnOK (memOf w)) := by
 intro n cs x h hcn; obtain ⟨hl, hf⟩ := trod_struct_at hC Try.underlying100 h hcn; rw [show Try.prog.cellsOf 100 = 6 from by kernel_rfl] at hl
 match cs, hl with
 | [c0, c1, c2, c3, c4, c5], _ =>
  obtain ⟨n0, y0, t0, k0⟩ := hf 0 _ rfl; obtain ⟨qb, e0, r0⟩ := opens_field (opens_slice hC encBo_len (by decide) Try.underlying97 (by kernel_rfl) (by_ := 120) (by kernel_rfl) (opens_bo hC)) (sz := 1) (cs' := [c0]) (by kernel_rfl) t0 k0 rfl; obtain rfl := (List.cons.inj e0).1; obtain ⟨n1, y1, t1, k1⟩ := hf 1 _ rfl; obtain ⟨qj, e1, r1⟩ := opens_field (opens_slice hC encJt_len (by decide) Try.underlying98 (by kernel_rfl) (by_ := 56) (by kernel_rfl) (opens_jt hC)) (sz := 1) (cs' := [c1]) (by kernel_rfl) t1 k1 rfl; obtain rfl := (List.cons.inj e1).1; obtain ⟨n2, y2, t2, k2⟩ := hf 2 _ rfl; obtain ⟨qc, e2, r2⟩ := opens_field (opens_slice hC encCo_len (by decide) Try.underlying71 (by kernel_rfl) (by_ := 80) (by kernel_rfl) (opens_co hC)) (sz := 1) (cs' := [c2]) (by kernel_rfl) t2 k2 rfl; obtain rfl := (List.cons.inj e2).1; obtain ⟨n3, y3, t3, k3⟩ := hf 3 _ rfl; obtain ⟨v, e3, r3⟩ := opens_field (opens_vec hC) (sz := 2) (cs' := [c3, c4]) (by kernel_rfl) t3 k3 rfl; obtain ⟨rfl, rfl⟩ : c3 = .int .i64 v.1 ∧ c4 = .int .i64 v.2 := by simpa [encV2] using e3
  obtain ⟨n4, y4, t4, k4⟩ := hf 4 _ rfl; obtain ⟨a0, e4, r4⟩ := opens_field (opens_int Try.underlying3) (sz := 1) (cs' := [c5]) (by kernel_rfl) t4 k4 rfl; obtain rfl := (List.cons.inj e4).1; exact ⟨⟨qb.A, qb.n, qb.c, qb.xs, qj.A, qj.n, qj.c, qc.A, qc.n, qc.c, qc.xs, v.1, v.2, a0⟩, rfl, ⟨r0.len, r0.cap, by have := r0.reach; dsimp only; omega, r0.cels⟩, ⟨r2.len, r2.cap, by have := r2.reach; dsimp only; omega, r2.cels⟩⟩

theorem opens_en {H : Type} {enc : TypeId × Value → H} {w : World} {base : Nat} {spare : Nat → Bool} {held : Bool} {Cn : TypeId → DataW H → Prop} {b : Nat} (hC : Cnd Try.prog b Cn) : Opens enc Try.prog w base spare held Cn 117 encV2 (fun _ => True) := by
 intro n cs x h hcn; obtain ⟨hl, hf⟩ := trod_struct_at hC Try.underlying117 h hcn; rw [show Try.prog.cellsOf 117 = 2 from by kernel_rfl] at hl
 match cs, hl with
 | [c0, c1], _ =>
  obtain ⟨n0, y0, t0, k0⟩ := hf 0 _ rfl; obtain ⟨a0, e0, r0⟩ := opens_field (opens_int Try.underlying3) (sz := 1) (cs' := [c0]) (by kernel_rfl) t0 k0 rfl; obtain rfl := (List.cons.inj e0).1; obtain ⟨n1, y1, t1, k1⟩ := hf 1 _ rfl; obtain ⟨a1, e1, r1⟩ := opens_field (opens_int Try.underlying3) (sz := 1) (cs' := [c1]) (by kernel_rfl) t1 k1 rfl; obtain rfl := (List.cons.inj e1).1; exact ⟨⟨a0, a1⟩, rfl, trivial⟩

theorem opens_ens {H : Type} {enc : TypeId × Value → H} {w : World} {base : Nat} {spare : Nat → Bool} {held : Bool} {Cn : TypeId → DataW H → Prop} {b : Nat} (hC : Cnd Try.prog b Cn) : Opens enc Try.prog w base spare held Cn 101 encS (SOK (memOf w) 16 b encV2 (fun _ => True)) :=
 opens_slice hC encV2_len (by decide) Try.underlying101 (by kernel_rfl) (by kernel_rfl) (opens_en hC)
theorem ens_in {w : World} {A : Option Addr} {n c b : Nat} {xs : List (Int × Int)} (h : SOK (memOf w) 16 b encV2 (fun _ => True) ⟨A, n, c, xs⟩) : xs.length = n ∧ n ≤ c ∧ n ≤ 8796093022208 ∧ Cels (memOf w) [] A (xs.flatMap encV2) := ⟨h.len, h.cap, by have hr : n * 16 ≤ _ := h.reach; omega, h.cels⟩

end Go.Proofs.Ytacmbiohjiogiaa.K
end
section
set_option linter.unusedSimpArgs false
set_option linter.unusedVariables false
namespace Go.Proofs.Ytacmbiohjiogiaa.K
open Go.RowKit
section
variable {P : Program} {N : Nat} {w0 : World} {V : Mem} {Q : Exit → Frm → List Grp → Prop} {f : Frm} {L : List Grp} {ops : Array Oper} {rest : List Oper} {o : Oper} {d : Nat} {v : Value}
variable {ty : TypeId} {ps : String} {af : Array Edge} {g : Option (Nat × Bool)}
theorem run_checkKey_int {kt : TypeId} {k : IntKind} {e : Bool} (n : Nat) (q : Int) (w : World) (hk : ∀ w, (underlying kt).run P w = .ok (.int k) w) : (Instr.checkKey e (n + 1) kt (.int k q)).run P w = .ok () w := by
 unfold Instr.checkKey; simp only [Sem.run_bind, hk, Result.andThen_ok]
 rfl
end
end Go.Proofs.Ytacmbiohjiogiaa.K
end
section
set_option linter.unusedVariables false
namespace Go.Proofs.Ytacmbiohjiogiaa.K
open Go.RowKit
section
variable {P : Program} {N : Nat} {w0 : World} {V : Mem} {L0 : List Grp} {LS : List (Nat × List Grp)} {Q : Exit → Frm → List Grp → Prop} {f : Frm} {L : List Grp} {ops : Array Oper} {o : Oper} {d : Nat} {v : Value}
/-- The groups 'L0' stay as they are; others each till an operation. -/
def CU (w0 : World) (V : Mem) (L0 : List Grp) (LS : List (Nat × List Grp)) (listed : Array Bool) (w : World) : Prop := SH w0 V w L0 ∧ ∀ p ∈ LS, listed.getD p.1 true = false → SH w0 V w p.2
def drawU (P : Program) (N : Nat) (w0 : World) (V : Mem) (L0 : List Grp) (LS : List (Nat × List Grp)) (ops : Array Oper) (Q : Exit → Frm → List Grp → Prop) (fuel : Nat) (listed : List Bool) (f : Frm) (L : List Grp) : Prop :=
 ∀ a w, Rep N f a → SH w0 V w L → anyS P ops (CU w0 V L0 LS) (onN fun a w => lift N w0 V Q .normal a w) fuel listed.toArray a w
theorem s_drawU {id : Nat} {l : List Oper} (js : List Nat) (ts : List (Nat × List Nat)) (hm : P.follows .mixedOrders = true) (h0 : picks js L = L0) (hl : ts.map (fun t => (t.1, picks t.2 L)) = LS) (h : drawU P N w0 V L0 LS l.toArray Q l.length (List.replicate l.length false) f L) : wpS P N w0 V (.region id l.toArray true) Q f L := by
 intro a w ha hw; refine wp_mono (wp_region_any (Q := onN fun a w => lift N w0 V Q .normal a w) hm ?_) ?_
 ·have := (h a _ ha (hw.drawn (w.drawn + 1))).any
  simpa [List.toArray_replicate] using this
 ·intro e a w h
  cases e with
  | normal => exact h
  | _ => exact h.elim
/-- Which groups an operation reads. -/
def RdU (L0 : List Grp) (LS : List (Nat × List Grp)) (ops : Array Oper) (listed : List Bool) (i : Nat) (LD : List Grp) : Prop := (LS.all fun p => !(i == p.1)) = true ∧ (LD = L0 ∨ ∃ p ∈ LS, LD = p.2 ∧ ∃ cs, chainB ops listed i cs p.1 = true)
theorem RdU.stay {listed : List Bool} {i : Nat} (h : (LS.all fun p => !(i == p.1)) = true) : RdU L0 LS ops listed i L0 := ⟨h, .inl rfl⟩
theorem RdU.till {listed : List Bool} {i : Nat} {LD : List Grp} (q : Nat) {kk : Nat} (cs : List Nat) (h : (LS.all fun p => !(i == p.1)) = true) (hq : LS[q]? = some (kk, LD)) (hc : chainB ops listed i cs kk = true) : RdU L0 LS ops listed i LD :=
 ⟨h, .inr ⟨(kk, LD), List.mem_of_getElem? hq, rfl, cs, hc⟩⟩
theorem u_core {fuel i : Nat} {listed : List Bool} {LD : List Grp} (hi : ops[i]? = some o) (hs : Region.noSelect ops = true) (hr : (Region.ready .any ops listed.toArray).contains i = true) (hf : Region.free .any ops listed.toArray i = true) (hR : RdU L0 LS ops listed i LD) {a : Act} {w : World}
  (hy : YV P ops (fun w => SH w0 V w LD) o v a) (H : anyS P ops (CU w0 V L0 LS) (onN fun a w => lift N w0 V Q .normal a w) fuel (listed.set i true).toArray (a.put o.dst v) w) : anyS P ops (CU w0 V L0 LS) (onN fun a w => lift N w0 V Q .normal a w) (fuel + 1) listed.toArray a w := by
 obtain ⟨hne, hR⟩ := hR; have hne' : ∀ p ∈ LS, i ≠ p.1 := fun p hp => by
  have := List.all_eq_true.1 hne p hp
  simpa using this
 have hset : ∀ listed w, CU w0 V L0 LS (listed.setIfInBounds i true) w → CU w0 V L0 LS listed w := fun listed w h => ⟨h.1, fun p hp hl => h.2 p hp (by rw [getD_set_ne true (hne' p hp)]; exact hl)⟩; have H' : anyS P ops (CU w0 V L0 LS) (onN fun a w => lift N w0 V Q .normal a w) fuel (listed.toArray.setIfInBounds i true) (a.put o.dst v) w := by simpa using H
 rcases hR with rfl | ⟨p, hp, rfl, cs, hc⟩
 ·exact anyS_first (D := fun w => SH w0 V w LD) (inv := fun _ => True) hi (Region.noSelect_spec hs) (fun _ _ _ h => h) hset (fun _ _ _ h => h.1) (fun _ _ _ _ _ _ => trivial) fuel _ a w trivial (Region.free_spec hi hf) (by simpa using hr) hy H'
 ·obtain ⟨kk, LD⟩ := p; simp only [chainB, Bool.and_eq_true, List.all_eq_true, Bool.not_eq_true'] at hc; obtain ⟨hc1, hc2⟩ := hc; have hk : kk ∈ cs := by
   rcases links_last hc1 with h | h
   ·exact absurd h.symm (hne' _ hp)
   ·exact h
  refine anyS_first (D := fun w => SH w0 V w LD) (inv := fun listed => ∀ c ∈ cs, listed.getD c true = false) hi (Region.noSelect_spec hs) (fun _ _ _ h => h) hset (fun _ _ hv h => h.2 _ hp (hv kk hk)) ?_ fuel _ a w (fun c hcm => by simpa using hc2 c hcm) (Region.free_spec hi hf) (by simpa using hr) hy H'; intro listed j hv hri hrj hji c hcm; have hjc : j ≠ c := by
   rintro rfl; obtain ⟨oc, hoc, e, he, hb, hon⟩ := links_pred hc1 j hcm; obtain ⟨_, oj, hoj, hall⟩ := mem_ready.1 hrj; rw [hoc] at hoj
   cases hoj
   have h1 := hall e he hb; have h0 : listed.getD e.on true = false := by
    rcases hon with h | h
    ·rw [h]; exact (mem_ready.1 hri).1
    ·exact hv _ h
   rcases Nat.lt_or_ge e.on listed.size with h' | h'
   ·simp [h'] at h0 h1; rw [h0] at h1; cases h1
   ·simp [Array.getElem?_eq_none h'] at h1
  rw [getD_set_ne true hjc]; exact hv c hcm
def StU (listed : List Bool) (L : List Grp) : List (Nat × List Grp) → Prop
 | [] => True
 | p :: r => (listed.getD p.1 true = true ∨ ∃ ja, picks ja L = p.2) ∧ StU listed L r
theorem StU.get {listed : List Bool} : ∀ {LS : List (Nat × List Grp)}, StU listed L LS → ∀ p ∈ LS, listed.getD p.1 true = true ∨ ∃ ja, picks ja L = p.2
 | [], _, p, hp => by cases hp
 | q :: r, h, p, hp => by
  rcases List.mem_cons.1 hp with rfl | hp
  ·exact h.1
  ·exact StU.get h.2 p hp
theorem CU.of {listed : List Bool} {w : World} (js : List Nat) (hs : picks js L = L0) (h : StU listed L LS) (hw : SH w0 V w L) : CU w0 V L0 LS listed.toArray w := ⟨sub_picks js hs _ _ _ hw, fun p hp hl => by
 have e : listed.toArray.getD p.1 true = listed.getD p.1 true := by simp
 rcases h.get p hp with h1 | ⟨ja, h1⟩
 ·rw [e, h1] at hl; cases hl
 ·exact sub_picks ja h1 _ _ _ hw⟩
theorem u_nil {fuel : Nat} {listed : List Bool} (js : List Nat) (hr : Region.ready .any ops listed.toArray = []) (hk : StU listed L LS) (hs : picks js L = L0) (h : Q .normal f L) : drawU P N w0 V L0 LS ops Q fuel listed f L := by
 intro a w ha hw; have hc := CU.of js hs hk hw
 cases fuel with
 | zero => exact ⟨hc, hr, f, L, ha, hw, h⟩
 | succ n => exact ⟨hc, fun _ => ⟨f, L, ha, hw, h⟩, by rw [hr]; simp⟩
variable {fuel i j : Nat} {listed : List Bool} {LD : List Grp} {b b' : Bool}
theorem u_val (hi : ops[i]? = some o) (hs : Region.noSelect ops = true) (hr : (Region.ready .any ops listed.toArray).contains i = true) (hf : Region.free .any ops listed.toArray i = true) (hR : RdU L0 LS ops listed i LD) (hg : o.guard = none) (hd : o.dst = some d) (hN : Nat.blt d N = true)
  (hy : Yld P f V LD o v) (h : drawU P N w0 V L0 LS ops Q fuel (listed.set i true) (upd f d v) L) : drawU P N w0 V L0 LS ops Q (fuel + 1) listed f L := by
 intro a w ha hw; exact u_core hi hs hr hf hR (.inl ⟨by simp [Region.wanted, hg], fun w hc => by rw [ha.eval]; exact hy w0 w hc⟩) (h _ w (hd ▸ ha.put hN v) hw)
theorem u_effs {k : Nat} {ks : List Nat} (js : List Nat) (hr : Region.ready .any ops listed.toArray = k :: ks) (hs : picks js L = L0) (ha0 : StU listed L LS)
  (h : ∀ i ∈ k :: ks, ∃ o, ops[i]? = some o ∧ opsS P N w0 V ops (onlyS fun f' L' => drawU P N w0 V L0 LS ops Q fuel (listed.set i true) f' L') [o] f L) : drawU P N w0 V L0 LS ops Q (fuel + 1) listed f L := by
 intro a w ha hw; refine ⟨CU.of js hs ha0 hw, ?_, ?_⟩
 ·intro h0; rw [hr] at h0; cases h0
 intro i hi; rw [hr] at hi; obtain ⟨o, hk, h0⟩ := h i hi; have h1 := h0 a w ha hw; have key : ∀ (K : Act → World → Prop), (∀ a' w', lift N w0 V (onlyS fun f' L' => drawU P N w0 V L0 LS ops Q fuel (listed.set i true) f' L') .normal a' w' → K a' w') → wpOp P ops (onN fun a w => lift N w0 V Q .normal a w) i K a w := by
  intro K hK; unfold wpOp; simp only [hk]; unfold wpList at h1
  split at h1
  ·rename_i hwa
   rw [if_pos hwa]; rcases h1 with h1 | ⟨_, a', w', f', L', _, _, hF⟩
   ·refine .inl ?_; unfold Oper.wp at h1 ⊢
    generalize (execOp a.eval o).run P w = r at h1
    cases r with
    | ok nx w' =>
     cases nx <;> simp only [Oper.upon] at h1 ⊢
     case value u => exact hK _ _ h1
     case skip => exact hK _ _ h1
     case defer dd => exact hK _ _ h1
     case enter ff args =>
      refine Calls.mono h1 fun e w'' he => ?_
      cases e with
      | returned u => exact hK _ _ he
      | panicked c => obtain ⟨f', L', _, _, hF⟩ := he; exact hF.elim
      | outgrown => obtain ⟨a', w', f', L', _, _, hF⟩ := he; exact hF.elim
     case row row args => exact Rows.mono h1 fun u w'' he => hK _ _ he
    | halt x w' =>
     cases x <;> simp only [Oper.upon] at h1 ⊢
     case panic u => obtain ⟨f', L', _, _, hF⟩ := h1; exact hF.elim
   ·exact hF.elim
  ·rename_i hwa
   rw [if_neg hwa]; exact hK _ _ h1
 refine key _ ?_; rintro a' w' ⟨f', L', h1, h2, h3⟩; have := h3 a' w' h1 h2
 simpa using this
theorem u_eff {k : Nat} (js : List Nat) (hk : ops[k]? = some o) (hr : Region.ready .any ops listed.toArray = [k]) (hs : picks js L = L0) (ha0 : StU listed L LS)
  (h : opsS P N w0 V ops (onlyS fun f' L' => drawU P N w0 V L0 LS ops Q fuel (listed.set k true) f' L') [o] f L) : drawU P N w0 V L0 LS ops Q (fuel + 1) listed f L :=
 u_effs js hr hs ha0 fun i hi => by
  obtain rfl : i = k := by simpa using hi
  exact ⟨_, hk, h⟩
theorem u_eff2 {k k' : Nat} {o' : Oper} (js : List Nat) (hk : ops[k]? = some o) (hk' : ops[k']? = some o') (hr : Region.ready .any ops listed.toArray = [k, k']) (hs : picks js L = L0) (ha0 : StU listed L LS)
  (h : opsS P N w0 V ops (onlyS fun f' L' => drawU P N w0 V L0 LS ops Q fuel (listed.set k true) f' L') [o] f L) (h' : opsS P N w0 V ops (onlyS fun f' L' => drawU P N w0 V L0 LS ops Q fuel (listed.set k' true) f' L') [o'] f L) : drawU P N w0 V L0 LS ops Q (fuel + 1) listed f L :=
 u_effs js hr hs ha0 fun i hi => by
  rcases List.mem_cons.1 hi with rfl | hi
  ·exact ⟨_, hk, h⟩
  ·obtain rfl : i = k' := by simpa using hi
   exact ⟨_, hk', h'⟩
end
end Go.Proofs.Ytacmbiohjiogiaa.K
end
section
set_option linter.unusedSimpArgs false
set_option linter.unusedVariables false
namespace Go.Proofs.Ytacmbiohjiogiaa.K
open Go.RowKit
/-- The entries of a map. -/
def vEs : List (Int × Value) → Nat → List MapEntry
 | [], _ => []
 | p :: r, i => ⟨.int .i64 p.1, p.2, i⟩ :: vEs r (i + 1)
def vGet (xs : List (Int × Value)) (q : Int) : Option Value := (xs.find? (fun p => decide (p.1 = q))).map (·.2)
def vObj (xs : List (Int × Value)) : Obj := .map (vEs xs 0).toArray xs.length
def vGrp (b : Nat) (xs : List (Int × Value)) : Grp := [(b, vObj xs)]
theorem vEs_snoc (p : Int × Value) : ∀ (xs : List (Int × Value)) (i : Nat), vEs (xs ++ [p]) i = vEs xs i ++ [⟨.int .i64 p.1, p.2, i + xs.length⟩]
 | [], i => rfl
 | q :: xs, i => by
  simp only [List.cons_append, vEs, vEs_snoc p xs (i + 1), List.length_cons]; rw [show i + 1 + xs.length = i + (xs.length + 1) by omega]
theorem vGet_cons (p : Int × Value) (xs : List (Int × Value)) (q : Int) : vGet (p :: xs) q = if p.1 = q then some p.2 else vGet xs q := by
 unfold vGet; rw [List.find?_cons]
 by_cases h : p.1 = q
 ·simp [h]
 ·simp [h]
theorem find_vEs (q : Int) : ∀ (xs : List (Int × Value)) (i j : Nat), ∃ r, Instr.findNow (.int .i64) (.int .i64 q) (vEs xs i) j = some r ∧ r.map (·.2) = vGet xs q
 | [], i, j => ⟨none, rfl, rfl⟩
 | p :: xs, i, j => by
  simp only [vEs, Instr.findNow, Instr.sameNow, vGet_cons]
  by_cases h : p.1 = q
  ·rw [if_pos h, show (q == p.1) = true from beq_iff_eq.2 h.symm]; exact ⟨_, rfl, rfl⟩
  ·rw [if_neg h, show (q == p.1) = false from by simpa using fun e => h e.symm]; exact find_vEs q xs (i + 1) (j + 1)
section
variable {P : Program} {N : Nat} {w0 : World} {V : Mem} {Q : Exit → Frm → List Grp → Prop} {f : Frm} {L : List Grp} {ops : Array Oper} {rest : List Oper} {o : Oper} {d : Nat} {v : Value}
variable {ty : TypeId} {ps : String} {af : Array Edge} {g : Option (Nat × Bool)}
theorem o_makeMapV {t : TypeId} (hN : Nat.blt d N = true) (h : ∀ b, opsS P N w0 V ops Q rest (upd f d (.map (some b))) (L ++ [vGrp b []])) :
  opsS P N w0 V ops Q (⟨some d, .makeMap t none, ty, ps, af, none⟩ :: rest) f L := o_makeMap hN h
theorem o_insertV {t kt et : TypeId} {m k x : Operand} {b : Nat} {xs : List (Int × Value)} {q : Int} (j : Nat) (hj : nth L j = some (vGrp b xs)) (ht : ∀ w, (underlying t).run P w = .ok (.map kt et) w) (hk : ∀ w, (underlying kt).run P w = .ok (.int .i64) w) (hm : evF f m = .map (some b)) (hkx : evF f k = .int .i64 q) (hv : evF f x = v) (hn : vGet xs q = none)
  (h : opsS P N w0 V ops Q rest f (setG L j (vGrp b (xs ++ [(q, v)])))) : opsS P N w0 V ops Q (⟨none, .insert t m k x, ty, ps, af, none⟩ :: rest) f L := by
 refine o_skip rfl rfl (fun w hw => ?_) h; have hb : w.heap[b]? = some (vObj xs) := hw.own (b, vObj xs) (nth_mem hj _ (by simp [vGrp])); have hg : (getObj b).run P w = .ok (vObj xs) w := by unfold vObj at hb ⊢; simp [getObj, Sem.run, hb]
 have hs : (setObj b (vObj (xs ++ [(q, v)]))).run P w = .ok () { w with heap := w.heap.setIfInBounds b (vObj (xs ++ [(q, v)])) } := by unfold vObj at hb ⊢; simp [setObj, Sem.run, hb]
 have hlt : b < w.heap.size := (Array.getElem?_eq_some_iff.1 hb).1; refine ⟨{ w with heap := w.heap.setIfInBounds b (vObj (xs ++ [(q, v)])) }, ?_, hw.put (r := []) hj rfl rfl rfl (by simp) (by simp [hlt]) (fun q hq => by simp [Array.getElem?_setIfInBounds, Ne.symm hq])⟩; have hck : (Instr.checkKey false 10000 kt (.int .i64 q)).run P w = .ok () w := run_checkKey_int 9999 q w hk; obtain ⟨r, h1, h2⟩ := find_vEs q xs 0 0; rw [hn] at h2; have hr : r = none := by cases r <;> simp_all
 subst hr; have hfk : (Instr.findKey kt (.int .i64 q) (vEs xs 0)).run P w = .ok none w := by simp [Instr.findKey, hk, h1]
 have hpush : vObj (xs ++ [(q, v)]) = .map (vEs xs 0 ++ [MapEntry.mk (.int .i64 q) v xs.length]).toArray (xs.length + 1) := by
  unfold vObj; rw [vEs_snoc, List.length_append, Nat.zero_add]; rfl
 rw [hpush] at hs ⊢; simp only [execOp, hm, hkx, hv, Sem.run_bind]; simp [Instr.mapUpdate, ht, hg, hck, hfk, hs, vObj]
theorem y_lookupV {t kt et : TypeId} {m k : Operand} {b : Nat} {xs : List (Int × Value)} {q : Int} {z : Value} (j : Nat) (hj : nth L j = some (vGrp b xs)) (ht : ∀ w, (underlying t).run P w = .ok (.map kt et) w) (hk : ∀ w, (underlying kt).run P w = .ok (.int .i64) w) (hz : ∀ w, (zeroValue et).run P w = .ok z w) (hm : evF f m = .map (some b)) (hkx : evF f k = .int .i64 q) :
  Yld P f V L ⟨some d, .lookup t m k true, ty, ps, af, g⟩ (.tuple #[(vGet xs q).getD z, .bool (vGet xs q).isSome]) := fun w0 w hw => by
 have hb : w.heap[b]? = some (vObj xs) := hw.own (b, vObj xs) (nth_mem hj _ (by simp [vGrp])); have hg : (getObj b).run P w = .ok (vObj xs) w := by unfold vObj at hb ⊢; simp [getObj, Sem.run, hb]
 have hck : ∀ e, (Instr.checkKey e 10000 kt (.int .i64 q)).run P w = .ok () w := fun e => run_checkKey_int 9999 q w hk; obtain ⟨r, h1, h2⟩ := find_vEs q xs 0 0; have hfk : (Instr.findKey kt (.int .i64 q) (vEs xs 0)).run P w = .ok r w := by simp [Instr.findKey, hk, h1]
 cases hq : vGet xs q with
 | none =>
  rw [hq] at h2; have hr : r = none := by cases r <;> simp_all
  subst hr; simp [execOp, hm, hkx, Instr.lookup, ht, hg, vObj, hck, hfk, hz]
 | some y =>
  rw [hq] at h2; obtain ⟨i, rfl⟩ : ∃ i, r = some (i, y) := by
   cases r with
   | none => simp at h2
   | some p => obtain ⟨i, v⟩ := p; simp at h2; exact ⟨i, by rw [h2]⟩
  simp [execOp, hm, hkx, Instr.lookup, ht, hg, vObj, hck, hfk]
end
end Go.Proofs.Ytacmbiohjiogiaa.K
end
section
set_option linter.unusedVariables false
set_option linter.unusedSimpArgs false
set_option maxRecDepth 100000
namespace Go.Proofs.Ytacmbiohjiogiaa.K
open Go.RowKit

def ngrp (b : Nat) (s : ByteArray) : Grp := [(b, .cells [.string s].toArray 9 (0, 0))]
theorem cel_str {V : Mem} {L : List Grp} {A : Option Addr} {bs : List ByteArray} (h : Cels V L A (bs.map .string)) {i : Nat} (hi : i < bs.length) : Cel V L (idx A i) (.string (bs.getD i ByteArray.empty)) :=
 h.cel (by simp [hi])
theorem some_str {V : Mem} {L : List Grp} {A : Option Addr} {bs : List ByteArray} (h : Cels V L A (bs.map .string)) {i : Nat} (hi : i < bs.length) : A.isSome = true := h.isSome (i := i) (by simpa using hi)

theorem find1_c {V : Mem} (k : KR) (b : Nat) (nm : ByteArray) : CallS Try.prog 190 [.agg #[.string k.name, .slice k.A k.n k.c], .pointer (some ⟨b, 0, none⟩)].toArray V [ngrp b nm] (fun r L' => r = .bool (decide (k.name = nm)) ∧ L' = [ngrp b nm]) := by
 refine callS Try.func190 rfl rfl (fun w0 => ?_); refine s_seq (s_region ?_); refine o_box (v := (.agg #[(.string _), (.slice _ _ _)])) rfl rfl rfl (fun b1 => ?_); refine ov (y_assign (v := .bool _) rfl) (o_nil ?_); refine s_seq (s_region ?_); refine ov (y_field0 Try.runUnderlying58 rfl Try.sizeOf9 rfl rfl) ?_; refine ov (y_load Try.isAgg9 rfl (cel_own 1 rfl rfl)) ?_; refine ov (y_load Try.isAgg9 rfl (cel_own 0 rfl rfl)) ?_; refine ov (y_eql_str rfl rfl) ?_; refine ov (y_assign (v := .bool _) rfl) (o_nil ?_); refine s_ret ?_; exact ⟨_, _, res1 rfl rfl, ⟨rfl, rfl⟩, sub_front ⟨_, rfl⟩⟩

theorem IndexK_c {V : Mem} (A : Option Addr) (n c : Nat) (ks : List KR) (h : Cels V [] A (ks.flatMap encK)) (hn : ks.length = n) (hb : n ≤ 140737488355328) (b : Nat) (nm : ByteArray) : CallS Try.prog 189 [.slice A n c, .func (.func 190) #[] [.pointer (some ⟨b, 0, none⟩)].toArray].toArray V [ngrp b nm] (fun r L' => ∃ k, r = .int .i64 k ∧ FindOK ks nm k ∧ L' = [ngrp b nm]) := by
 refine callS Try.func189 rfl rfl (fun w0 => ?_); refine s_seq (s_region ?_); refine ov (y_assign (v := .int _ _) rfl) (o_nil ?_); refine s_seq ?_; refine s_seq (s_region ?_); refine ov (y_move (v := .slice _ _ _) rfl) ?_; refine ov (y_len Try.runUnderlying23 rfl) ?_; refine ov (y_move (v := .int _ _) rfl) (o_nil ?_); refine s_block ?_; refine s_loop (γ := Nat) (fun g => [(0, .slice A n c), (1, .func (.func 190) #[] [.pointer (some ⟨b, 0, none⟩)].toArray), (7, .int .i64 n), (8, .int .i64 g)]) (fun g => [ngrp b nm]) (fun g => g ≤ n ∧ ∀ j, j < g → (ks.getD j default).name ≠ nm) (fun g => n - g) (0) ?_ ⟨rfl, rfl, rfl, rfl, trivial⟩ (sub_front ⟨_, rfl⟩) ?_
 ·exact ⟨Nat.zero_le _, fun j hj => absurd hj (Nat.not_lt_zero j)⟩
 ·intro g _f hI; obtain ⟨hg, hall⟩ := hI; refine s_seq (s_region ?_); refine ov (y_lss rfl rfl) (o_nil ?_); refine s_seq ?_; refine s_if rfl (fun h1 => ?_) (fun h2 => ?_)
  ·refine s_skip ?_; refine s_seq ?_; refine s_block ?_; refine s_seq (s_region ?_); refine ov (y_move (v := .int _ _) rfl) ?_; refine ov (y_assign (v := .int _ _) rfl) (o_nil ?_); refine s_seq (s_region ?_); refine ov (y_move (v := .func _ _ _) rfl) ?_; refine ov (y_move (v := .slice _ _ _) rfl) ?_; refine ov (y_move (v := .int _ _) rfl) ?_; refine ov (y_indexAddr Try.runUnderlying23 Try.sizeOf58 (some_at (sz := 1) encK_len (i := 0) h (by omega)) rfl rfl (by omega)) ?_; refine ov (y_loads (cs := [_, _]) Try.isAgg58 Try.sizeOf58 rfl (by unfold idx; rw [Option.isSome_map]; exact some_at (sz := 1) encK_len (i := 0) h (by omega)) rfl (cels_at (sz := 2) encK_len h.here (by omega))) ?_; refine o_fnv' 1 (d := 16) rfl Try.call190 rfl rfl rfl (find1_c (ks.getD g default) b nm) ?_; rintro _ _ ⟨rfl, rfl⟩; refine o_nil ?_; refine s_if rfl (fun h3 => ?_) (fun h4 => ?_)
   ·refine s_seq (s_region ?_); refine ov (y_move (v := .int _ _) rfl) ?_; refine ov (y_assign (v := .int _ _) rfl) (o_nil ?_); refine s_ret ?_; exact ⟨_, [_], res1 rfl rfl, ⟨_, rfl, .inr ⟨g, rfl, by omega, by assumption, hall⟩, rfl⟩, sub_front ⟨_, rfl⟩⟩
   ·refine s_skip ?_; refine s_region ?_; refine ov (y_add rfl rfl (by simp only [inK]; omega)) ?_; refine ov (y_move (v := .int _ _) rfl) (o_nil ?_); exact ⟨g + 1, (by first | omega | (dsimp only; omega)), ⟨by omega, fun j hj => if e : j = g then by (rw [e]; assumption) else hall j (by omega)⟩, ⟨rfl, rfl, rfl, (congrArg (Value.int _) (by omega)), trivial⟩, sub_front ⟨_, rfl⟩⟩
  ·refine s_exit ?_; refine s_seq (s_region ?_); refine ov (y_assign (v := .int _ _) rfl) (o_nil ?_); refine s_ret ?_; exact ⟨_, [_], res1 rfl rfl, ⟨_, rfl, .inl ⟨rfl, fun j hj => hall j (by omega)⟩, rfl⟩, sub_front ⟨_, rfl⟩⟩

theorem find2_c {V : Mem} (f : FR) (nm : ByteArray) : CallS Try.prog 192 [.agg #[.string f.name, .int .i64 f.bits, .int .i64 f.low], .string nm].toArray V [] (fun r L' => r = .bool (decide (f.name = nm)) ∧ L' = []) := by
 refine callS Try.func192 rfl rfl (fun w0 => ?_); refine s_seq (s_region ?_); refine o_box (v := (.agg #[(.string _), (.int _ _), (.int _ _)])) rfl rfl rfl (fun b1 => ?_); refine ov (y_assign (v := .bool _) rfl) (o_nil ?_); refine s_seq (s_region ?_); refine ov (y_field0 Try.runUnderlying61 rfl Try.sizeOf9 rfl rfl) ?_; refine ov (y_load Try.isAgg9 rfl (cel_own 0 rfl rfl)) ?_; refine ov (y_move (v := .string _) rfl) ?_; refine ov (y_eql_str rfl rfl) ?_; refine ov (y_assign (v := .bool _) rfl) (o_nil ?_); refine s_ret ?_; exact ⟨_, _, res1 rfl rfl, ⟨rfl, rfl⟩, sub_front ⟨_, rfl⟩⟩

/-- The names of fields. -/
def names (fs : List FR) : List ByteArray := fs.map (·.name)
theorem names_getD {fs : List FR} {j : Nat} (h : j < fs.length) : (names fs).getD j ByteArray.empty = (fs.getD j default).name := by
 unfold names; simp [List.getD_eq_getElem?_getD, h]
theorem names_len (fs : List FR) : (names fs).length = fs.length := by simp [names]
theorem names_eq {fs : List FR} {nms : List ByteArray} (hl : fs.length = nms.length) (h : ∀ j, j < fs.length → (fs.getD j default).name = nms.getD j ByteArray.empty) : names fs = nms := by
 apply List.ext_getElem (by rw [names_len, hl])
 intro j h1 h2; have h3 := h j (by rw [names_len] at h1; exact h1); rw [← names_getD (by rw [names_len] at h1; exact h1)] at h3
 simpa [List.getD_eq_getElem?_getD, h1, h2] using h3

theorem EqualF_c {V : Mem} (A : Option Addr) (n c : Nat) (fs : List FR) (h : Cels V [] A (fs.flatMap encF)) (hn : fs.length = n) (hb : n ≤ 140737488355328) (B : Option Addr) (m d : Nat) (nms : List ByteArray) (h' : Cels V [] B (nms.map .string)) (hm : nms.length = m) : CallS Try.prog 191 [.slice A n c, .slice B m d, .func (.func 192) #[] #[]].toArray V [] (fun r L' => r = .bool (decide (names fs = nms)) ∧ L' = []) := by
 refine callS Try.func191 rfl rfl (fun w0 => ?_); refine s_seq (s_region ?_); refine ov (y_assign (v := .bool _) rfl) (o_nil ?_); refine s_seq ?_; refine s_seq (s_region ?_); refine ov (y_move (v := .slice _ _ _) rfl) ?_; refine ov (y_len Try.runUnderlying56 rfl) ?_; refine ov (y_move (v := .slice _ _ _) rfl) ?_; refine ov (y_len Try.runUnderlying93 rfl) ?_; refine ov (y_neq rfl rfl) (o_nil ?_); refine s_if rfl (fun h1 => ?_) (fun h2 => ?_)
 ·refine s_seq (s_region ?_); refine ov (y_assign (v := .bool _) rfl) (o_nil ?_); refine s_ret ?_; exact ⟨_, _, res1 rfl rfl, ⟨congrArg Value.bool (decide_eq_false (fun e => by have := congrArg List.length e; rw [names_len] at this; omega)).symm, rfl⟩, sub_front ⟨_, rfl⟩⟩
 ·refine s_skip ?_; refine s_seq ?_; refine s_seq (s_region ?_); refine ov (y_move (v := .slice _ _ _) rfl) ?_; refine ov (y_len Try.runUnderlying56 rfl) ?_; refine ov (y_move (v := .int _ _) rfl) (o_nil ?_); refine s_block ?_; refine s_loop (γ := Nat) (fun g => [(0, .slice A n c), (1, .slice B m d), (2, .func (.func 192) #[] #[]), (15, .slice A n c), (16, .int .i64 n), (17, .int .i64 g)]) (fun g => []) (fun g => g ≤ n ∧ ∀ j, j < g → (fs.getD j default).name = nms.getD j ByteArray.empty) (fun g => n - g) (0) ?_ ⟨rfl, rfl, rfl, rfl, rfl, rfl, trivial⟩ (sub_front ⟨_, rfl⟩) ?_
  ·exact ⟨Nat.zero_le _, fun j hj => absurd hj (Nat.not_lt_zero j)⟩
  ·intro g _f hI; obtain ⟨hg, hall⟩ := hI; refine s_seq (s_region ?_); refine ov (y_lss rfl rfl) (o_nil ?_); refine s_seq ?_; refine s_if rfl (fun h3 => ?_) (fun h4 => ?_)
   ·refine s_skip ?_; refine s_seq ?_; refine s_block ?_; refine s_seq (s_region ?_); refine ov (y_move (v := .int _ _) rfl) ?_; refine ov (y_indexAddr Try.runUnderlying56 Try.sizeOf61 (some_at (sz := 2) encF_len (i := 0) h (by omega)) rfl rfl (by omega)) ?_; refine ov (y_loads (cs := [_, _, _]) Try.isAgg61 Try.sizeOf61 rfl (by unfold idx; rw [Option.isSome_map]; exact some_at (sz := 2) encF_len (i := 0) h (by omega)) rfl (cels_at (sz := 3) encF_len h.here (by omega))) ?_; refine o_alloc rfl Try.zeroValue61 rfl (fun b5 => ?_); refine ov (y_assign (v := .int _ _) rfl) ?_; refine o_stores (vs := [(.string _), (.int _ _), (.int _ _)]) 0 rfl Try.sizeOf61 rfl rfl rfl (by simp [Value.oneCell']) (by simp) (o_nil ?_); refine s_seq (s_region ?_); refine ov (y_move (v := .slice _ _ _) rfl) ?_; refine ov (y_move (v := .int _ _) rfl) ?_; refine ov (y_index1 Try.runUnderlying93 Try.sizeOf9 (some_str (i := 0) h' (by omega)) rfl rfl (by omega)) ?_; refine ov (y_load Try.isAgg9 rfl (cel_str h'.here (by omega))) ?_; refine ov (y_assign (v := .string _) rfl) (o_nil ?_); refine s_seq (s_region ?_); refine ov (y_move (v := .func _ _ _) rfl) ?_; refine ov (y_loads (cs := [_, _, _]) Try.isAgg61 Try.sizeOf61 rfl rfl rfl (cels_own 0 rfl rfl)) ?_; refine ov (y_move (v := .string _) rfl) ?_; refine o_fnv' 0 (d := 29) rfl Try.call192 rfl rfl rfl (find2_c (fs.getD g default) (nms.getD g ByteArray.empty)) ?_; rintro _ _ ⟨rfl, rfl⟩; refine ov (y_not rfl) (o_nil ?_); refine s_if rfl (fun h6 => ?_) (fun h7 => ?_)
    ·have hne := h6; refine s_seq (s_region ?_); refine ov (y_assign (v := .bool _) rfl) (o_nil ?_); refine s_ret ?_; exact ⟨_, _, res1 rfl rfl, ⟨congrArg Value.bool (decide_eq_false (fun e => hne (by rw [← e, names_getD (by omega)]))).symm, rfl⟩, sub_front ⟨_, rfl⟩⟩
    ·have heq := Decidable.not_not.1 h7; refine s_skip ?_; refine s_region ?_; refine ov (y_add rfl rfl (by simp only [inK]; omega)) ?_; refine ov (y_move (v := .int _ _) rfl) (o_nil ?_); exact ⟨g + 1, (by first | omega | (dsimp only; omega)), ⟨by omega, fun j hj => if e : j = g then by (rw [e]; exact heq) else hall j (by omega)⟩, ⟨rfl, rfl, rfl, rfl, rfl, (congrArg (Value.int _) (by omega)), trivial⟩, sub_front ⟨_, rfl⟩⟩
   ·refine s_exit ?_; refine s_seq (s_region ?_); refine ov (y_assign (v := .bool _) rfl) (o_nil ?_); refine s_ret ?_; exact ⟨_, _, res1 rfl rfl, ⟨congrArg Value.bool (decide_eq_true (names_eq (by omega) (fun j hj => hall j (by omega)))).symm, rfl⟩, sub_front ⟨_, rfl⟩⟩

theorem FindOK.unique {ks : List KR} {nm : ByteArray} {r r' : Int} (h : FindOK ks nm r) (h' : FindOK ks nm r') : r = r' := by
 rcases h with ⟨h1, h2⟩ | ⟨j, h1, h2, h3, h4⟩ <;> rcases h' with ⟨e1, e2⟩ | ⟨i, e1, e2, e3, e4⟩
 ·omega
 ·exact absurd e3 (h2 i e2)
 ·exact absurd h3 (e2 j h2)
 ·rcases Nat.lt_trichotomy i j with hl | hl | hl
  ·exact absurd e3 (h4 i hl)
  ·omega
  ·exact absurd h3 (e4 j hl)
/-- Where a kind with a name and fields is: its place or -1; are its fields the ones asked? -/
def Spot (ks : List KR) (nm : ByteArray) (nms : List ByteArray) (r : Int) (ok : Bool) : Prop :=
 (FindOK ks nm (-1) ∧ r = -1 ∧ ok = true) ∨ (∃ j : Nat, j < ks.length ∧ FindOK ks nm j ∧ ((names (ks.getD j default).fs = nms ∧ r = j ∧ ok = true) ∨ (names (ks.getD j default).fs ≠ nms ∧ r = -1 ∧ ok = false)))
theorem Spot.unique {ks : List KR} {nm : ByteArray} {nms : List ByteArray} {r r' : Int} {o o' : Bool} (h : Spot ks nm nms r o) (h' : Spot ks nm nms r' o') : r = r' ∧ o = o' := by
 rcases h with ⟨h1, h2, h3⟩ | ⟨j, h1, h2, h3⟩ <;> rcases h' with ⟨e1, e2, e3⟩ | ⟨i, e1, e2, e3⟩
 ·exact ⟨by omega, by rw [h3, e3]⟩
 ·have := h1.unique e2; omega
 ·have := h2.unique e1; omega
 ·have e := h2.unique e2; have e' : j = i := by omega
  subst e'; rcases h3 with h3 | h3 <;> rcases e3 with e3 | e3
  ·exact ⟨by omega, by rw [h3.2.2, e3.2.2]⟩
  ·exact absurd h3.1 e3.1
  ·exact absurd e3.1 h3.1
  ·exact ⟨by omega, by rw [h3.2.2, e3.2.2]⟩

theorem find_c {V : Mem} (A : Option Addr) (n c : Nat) (ks : List KR) (h : Cels V [] A (ks.flatMap encK)) (hn : ks.length = n) (hb : n ≤ 140737488355328) (hK : ∀ k ∈ ks, KOK V k) (nm : ByteArray) (B : Option Addr) (m d : Nat) (nms : List ByteArray) (h' : Cels V [] B (nms.map .string)) (hm : nms.length = m) : CallS Try.prog 146 [.slice A n c, .string nm, .slice B m d].toArray V [] (fun r L' => ∃ k ok, r = .tuple #[.int .i64 k, .int .i64 (if ok then 0 else 8)] ∧ Spot ks nm nms k ok ∧ L' = []) := by
 refine callS Try.func146 rfl rfl (fun w0 => ?_); refine s_seq (s_region ?_); refine o_box (v := .string _) rfl rfl rfl (fun b1 => ?_); refine ov (y_assign (v := .int _ _) rfl) ?_; refine ov (y_assign (v := .int _ _) rfl) (o_nil ?_); refine s_seq (s_region ?_); refine ov (y_move (v := .slice _ _ _) rfl) ?_; refine ov (y_func' (xs := []) (a := []) (b := [(.pointer _)]) rfl rfl) ?_; refine o_fn 1 (d := 11) rfl Try.call189 (IndexK_c _ _ _ ks h.here.down hn hb _ nm) rfl ?_; rintro _ _ ⟨k, rfl, hk, rfl⟩; refine ov (y_assign (v := .int _ _) rfl) (o_nil ?_); refine s_seq ?_; refine s_seq (s_region ?_); refine ov (y_move (v := .int _ _) rfl) ?_; refine ov (y_lss rfl rfl) (o_nil ?_); refine s_if rfl (fun h2 => ?_) (fun h3 => ?_)
 ·have hneg := h2; refine s_seq (s_region ?_); refine ov (y_assign (v := .int _ _) rfl) ?_; refine ov (y_assign (v := .int _ _) rfl) (o_nil ?_); refine s_ret ?_; have hm1 : FindOK ks nm (-1) := by
   rcases hk with hh | ⟨j, h1, h2⟩
   ·exact .inl ⟨rfl, hh.2⟩
   ·omega
  exact ⟨_, [], res2 rfl rfl rfl, ⟨-1, true, rfl, .inl ⟨hm1, rfl, rfl⟩, rfl⟩, sub_picks [] rfl⟩
 ·have hnn := h3; obtain ⟨j, rfl, hj, hjn, hjm⟩ := hk.resolve_left (fun hh => by omega); have hx := hK _ (getD_mem' (d := default) hj); refine s_skip ?_; refine s_seq ?_; refine s_seq (s_region ?_); refine ov (y_move (v := .slice _ _ _) rfl) ?_; refine ov (y_move (v := .int _ _) rfl) ?_; refine ov (y_indexAddr Try.runUnderlying23 Try.sizeOf58 (some_at (sz := 1) encK_len (i := 0) h (by omega)) rfl rfl (by omega)) ?_; refine ov (y_fieldX (F := 1) Try.runUnderlying58 rfl Try.sizeOf56 rfl (some_at (sz := 1) encK_len (i := 0) h (by omega)) rfl) ?_; refine ov (y_load Try.isAgg56 rfl ((cels_at (sz := 2) encK_len h.here (by omega)).cel' (i := 1) rfl)) ?_; refine ov (y_move (v := .slice _ _ _) rfl) ?_; refine o_fn 0 (d := 20) rfl Try.call191 (EqualF_c _ _ _ (ks.getD j default).fs hx.2.2.2.here.down hx.1 (by have := hx.2.2.1; omega) _ _ _ nms h'.here.down hm) rfl ?_; rintro _ _ ⟨rfl, rfl⟩; refine ov (y_not rfl) (o_nil ?_); refine s_if rfl (fun h4 => ?_) (fun h5 => ?_)
  ·have hne := h4; refine s_seq (s_region ?_); refine ov (y_assign (v := .int _ _) rfl) ?_; refine ov (y_assign (v := .int _ _) rfl) (o_nil ?_); refine s_ret ?_; exact ⟨_, [], res2 rfl rfl rfl, ⟨-1, false, rfl, .inr ⟨j, hj, .inr ⟨j, rfl, hj, hjn, hjm⟩, .inr ⟨hne, rfl, rfl⟩⟩, rfl⟩, sub_picks [] rfl⟩
  ·have heq := Decidable.not_not.1 h5; refine s_skip ?_; refine s_seq (s_region ?_); refine ov (y_move (v := .int _ _) rfl) ?_; refine ov (y_assign (v := .int _ _) rfl) ?_; refine ov (y_assign (v := .int _ _) rfl) (o_nil ?_); refine s_ret ?_; exact ⟨_, [], res2 rfl rfl rfl, ⟨(j : Int), true, rfl, .inr ⟨j, hj, .inr ⟨j, rfl, hj, hjn, hjm⟩, .inl ⟨heq, rfl, rfl⟩⟩, rfl⟩, sub_picks [] rfl⟩

end Go.Proofs.Ytacmbiohjiogiaa.K
end
section
set_option linter.unusedVariables false
set_option linter.unusedSimpArgs false
set_option maxRecDepth 100000
namespace Go.Proofs.Ytacmbiohjiogiaa.K
open Go.RowKit

theorem strs_eq {a b : List ByteArray} (hl : a.length = b.length) (h : ∀ j, j < a.length → a.getD j ByteArray.empty = b.getD j ByteArray.empty) : a = b := by
 apply List.ext_getElem hl
 intro j h1 h2; have h3 := h j h1
 simpa [List.getD_eq_getElem?_getD, h1, h2] using h3

theorem EqS_c {V : Mem} (A : Option Addr) (n c : Nat) (bs : List ByteArray) (h : Cels V [] A (bs.map .string)) (hn : bs.length = n) (B : Option Addr) (m d : Nat) (cs : List ByteArray) (h' : Cels V [] B (cs.map .string)) (hm : cs.length = m) (hsz : n ≤ 140737488355328) : CallS Try.prog 85 [.slice A n c, .slice B m d].toArray V [] (fun r L' => r = .bool (decide (bs = cs)) ∧ L' = []) := by
 refine callS Try.func85 rfl rfl (fun w0 => ?_); refine s_seq (s_region ?_); refine ov (y_assign (v := .bool _) rfl) (o_nil ?_); refine s_seq ?_; refine s_seq (s_region ?_); refine ov (y_move (v := .slice _ _ _) rfl) ?_; refine ov (y_len Try.runUnderlying93 rfl) ?_; refine ov (y_move (v := .slice _ _ _) rfl) ?_; refine ov (y_len Try.runUnderlying93 rfl) ?_; refine ov (y_neq rfl rfl) (o_nil ?_); refine s_if rfl (fun h1 => ?_) (fun h2 => ?_)
 ·refine s_seq (s_region ?_); refine ov (y_assign (v := .bool _) rfl) (o_nil ?_); refine s_ret ?_; exact ⟨_, _, res1 rfl rfl, ⟨congrArg Value.bool (decide_eq_false (fun e => by subst e; omega)).symm, rfl⟩, sub_front ⟨_, rfl⟩⟩
 ·refine s_skip ?_; refine s_seq ?_; refine s_seq (s_region ?_); refine ov (y_move (v := .slice _ _ _) rfl) ?_; refine ov (y_len Try.runUnderlying93 rfl) ?_; refine ov (y_move (v := .int _ _) rfl) (o_nil ?_); refine s_block ?_; refine s_loop (γ := Nat) (fun g => [(0, .slice A n c), (1, .slice B m d), (12, .int .i64 n), (13, .int .i64 g)]) (fun g => []) (fun g => g ≤ n ∧ ∀ j, j < g → bs.getD j ByteArray.empty = cs.getD j ByteArray.empty) (fun g => n - g) (0) ?_ ⟨rfl, rfl, rfl, rfl, trivial⟩ (sub_front ⟨_, rfl⟩) ?_
  ·exact ⟨Nat.zero_le _, fun j hj => absurd hj (Nat.not_lt_zero j)⟩
  ·intro g _f hI; obtain ⟨hg, hall⟩ := hI; refine s_seq (s_region ?_); refine ov (y_lss rfl rfl) (o_nil ?_); refine s_seq ?_; refine s_if rfl (fun h3 => ?_) (fun h4 => ?_)
   ·refine s_skip ?_; refine s_seq ?_; refine s_block ?_; refine s_seq (s_region ?_); refine ov (y_move (v := .int _ _) rfl) ?_; refine ov (y_assign (v := .int _ _) rfl) (o_nil ?_); refine s_seq ?_; refine s_quiet (by kernel_rfl) (by kernel_rfl) ?_; refine q_val rfl rfl rfl (y_move (v := .slice _ _ _) rfl) ?_; refine q_val rfl rfl rfl (y_move (v := .int _ _) rfl) ?_; refine q_val rfl rfl rfl (y_index1 Try.runUnderlying93 Try.sizeOf9 (some_str (i := 0) h (by omega)) rfl rfl (by omega)) ?_; refine q_val rfl rfl rfl (y_load Try.isAgg9 rfl (cel_str h.here (by omega))) ?_; refine q_val rfl rfl rfl (y_move (v := .slice _ _ _) rfl) ?_; refine q_val rfl rfl rfl (y_move (v := .int _ _) rfl) ?_; refine q_val rfl rfl rfl (y_index1 Try.runUnderlying93 Try.sizeOf9 (some_str (i := 0) h' (by omega)) rfl rfl (by omega)) ?_; refine q_val rfl rfl rfl (y_load Try.isAgg9 rfl (cel_str h'.here (by omega))) ?_; refine q_val rfl rfl rfl (y_neq_str rfl rfl) ?_; refine q_nil ?_; refine s_if rfl (fun h5 => ?_) (fun h6 => ?_)
    ·have hne := h5; refine s_seq (s_region ?_); refine ov (y_assign (v := .bool _) rfl) (o_nil ?_); refine s_ret ?_; exact ⟨_, _, res1 rfl rfl, ⟨congrArg Value.bool (decide_eq_false (fun e => by subst e; exact hne rfl)).symm, rfl⟩, sub_front ⟨_, rfl⟩⟩
    ·have heq := Decidable.not_not.1 h6; refine s_skip ?_; refine s_region ?_; refine ov (y_add rfl rfl (by simp only [inK]; omega)) ?_; refine ov (y_move (v := .int _ _) rfl) (o_nil ?_); exact ⟨g + 1, (by first | omega | (dsimp only; omega)), ⟨by omega, fun j hj => if e : j = g then by (rw [e]; exact heq) else hall j (by omega)⟩, ⟨rfl, rfl, rfl, (congrArg (Value.int _) (by omega)), trivial⟩, sub_front ⟨_, rfl⟩⟩
   ·refine s_exit ?_; refine s_seq (s_region ?_); refine ov (y_assign (v := .bool _) rfl) (o_nil ?_); refine s_ret ?_; exact ⟨_, _, res1 rfl rfl, ⟨congrArg Value.bool (decide_eq_true (strs_eq (by omega) (fun j hj => hall j (by omega)))).symm, rfl⟩, sub_front ⟨_, rfl⟩⟩

/-- What the reference says of a kind with a name and fields. -/
def NamedOK (ks : List KR) (nm : ByteArray) (nms : List ByteArray) (r : Int) (ok : Bool) : Prop :=
 (FindOK ks nm (-1) ∧ r = -1 ∧ ok = true) ∨ (∃ j : Nat, j < ks.length ∧ FindOK ks nm j ∧ r = j ∧ ok = decide (names (ks.getD j default).fs = nms))
theorem named_spot {ks : List KR} {nm : ByteArray} {nms : List ByteArray} {r r' : Int} {o o' : Bool} (h : Spot ks nm nms r o) (h' : NamedOK ks nm nms r' o') : o = o' ∧ (o = true → r = r') := by
 rcases h with ⟨h1, h2, h3⟩ | ⟨j, h1, h2, h3⟩ <;> rcases h' with ⟨e1, e2, e3⟩ | ⟨i, e1, e2, e3, e4⟩
 ·exact ⟨by rw [h3, e3], fun _ => by omega⟩
 ·have := h1.unique e2; omega
 ·have := h2.unique e1; omega
 ·have e := h2.unique e2; have e' : j = i := by omega
  subst e'; rcases h3 with h3 | h3
  ·exact ⟨by rw [h3.2.2, e4, decide_eq_true h3.1], fun _ => by omega⟩
  ·exact ⟨by rw [h3.2.2, e4, decide_eq_false h3.1], fun hh => by rw [h3.2.2] at hh; cases hh⟩

theorem names_succ {fs : List FR} {i : Nat} (h : i < fs.length) : (names (fs.take i)).map Value.string ++ [Value.string (fs.getD i default).name] = (names (fs.take (i + 1))).map Value.string := by
 unfold names; rw [List.take_add_one, List.getElem?_eq_getElem h, List.getD_eq_getElem?_getD, List.getElem?_eq_getElem h]; simp only [Option.toList_some, List.map_append, List.map_cons, List.map_nil, Option.getD_some]

theorem Named_k0 (v0 : ByteArray) (w : World) : (Instr.buildSlice 93 1 ([(0, .string v0)] : List (Nat × Value)).toArray).run Try.prog w = .ok (.slice (some ⟨w.heap.size, 0, none⟩) 1 1) { w with heap := w.heap.push (.cells ([.string v0] : List Value).toArray 9 (0, 0)) } := by kernel_rfl
theorem Named_c {V : Mem} (A : Option Addr) (n c : Nat) (ks : List KR) (h : Cels V [] A (ks.flatMap encK)) (hn : ks.length = n) (hb : n ≤ 140737488355328) (hK : ∀ k ∈ ks, KOK V k) (nm : ByteArray) (B : Option Addr) (m d : Nat) (nms : List ByteArray) (h' : Cels V [] B (nms.map .string)) (hm : nms.length = m) : CallS Try.prog 141 [.slice A n c, .string nm, .slice B m d].toArray V [] (fun r L' => ∃ k ok, r = .tuple #[.int .i64 k, .bool ok] ∧ NamedOK ks nm nms k ok ∧ L' = []) := by
 refine callS Try.func141 rfl rfl (fun w0 => ?_); refine s_seq (s_region ?_); refine ov (y_assign (v := .int _ _) rfl) ?_; refine ov (y_assign (v := .bool _) rfl) (o_nil ?_); refine s_seq ?_; refine s_seq (s_region ?_); refine ov (y_move (v := .slice _ _ _) rfl) ?_; refine ov (y_len Try.runUnderlying23 rfl) ?_; refine ov (y_move (v := .int _ _) rfl) (o_nil ?_); refine s_block ?_; refine s_loop (γ := Nat) (fun g => [(1, .string nm), (2, .slice B m d), (13, .slice A n c), (14, .int .i64 n), (15, .int .i64 g)]) (fun g => []) (fun g => g ≤ n ∧ ∀ j, j < g → (ks.getD j default).name ≠ nm) (fun g => n - g) (0) ?_ ⟨rfl, rfl, rfl, rfl, rfl, trivial⟩ (sub_front ⟨_, rfl⟩) ?_
 ·exact ⟨Nat.zero_le _, fun j hj => absurd hj (Nat.not_lt_zero j)⟩
 ·intro g _f hI; obtain ⟨hg, hall⟩ := hI; refine s_seq (s_region ?_); refine ov (y_lss rfl rfl) (o_nil ?_); refine s_seq ?_; refine s_if rfl (fun h1 => ?_) (fun h2 => ?_)
  ·refine s_skip ?_; refine s_seq ?_; refine s_block ?_; refine s_seq (s_region ?_); refine ov (y_move (v := .int _ _) rfl) ?_; refine ov (y_indexAddr Try.runUnderlying23 Try.sizeOf58 (some_at (sz := 1) encK_len (i := 0) h (by omega)) rfl rfl (by omega)) ?_; refine ov (y_loads (cs := [_, _]) Try.isAgg58 Try.sizeOf58 rfl (by unfold idx; rw [Option.isSome_map]; exact some_at (sz := 1) encK_len (i := 0) h (by omega)) rfl (cels_at (sz := 2) encK_len h.here (by omega))) ?_; refine o_alloc rfl Try.zeroValue58 rfl (fun b3 => ?_); refine ov (y_assign (v := .int _ _) rfl) ?_; refine o_stores (vs := [(.string _), (.slice _ _ _)]) 0 rfl Try.sizeOf58 rfl rfl rfl (by simp [Value.oneCell']) (by simp) (o_nil ?_); refine s_seq ?_; refine s_seq (s_region ?_); refine ov (y_field0 Try.runUnderlying58 rfl Try.sizeOf9 rfl rfl) ?_; refine ov (y_load Try.isAgg9 rfl (cel_own 0 rfl rfl)) ?_; refine ov (y_move (v := .string _) rfl) ?_; refine ov (y_neq_str rfl rfl) (o_nil ?_); refine s_if rfl (fun h4 => ?_) (fun h5 => ?_)
   ·have hne := h4; refine s_exit ?_; refine s_region ?_; refine ov (y_add rfl rfl (by simp only [inK]; omega)) ?_; refine ov (y_move (v := .int _ _) rfl) (o_nil ?_); exact ⟨g + 1, (by first | omega | (dsimp only; omega)), ⟨by omega, fun j hj => if e : j = g then by (rw [e]; exact hne) else hall j (by omega)⟩, ⟨rfl, rfl, rfl, rfl, (congrArg (Value.int _) (by omega)), trivial⟩, sub_front ⟨_, rfl⟩⟩
   ·have heq := Decidable.not_not.1 h5; have hx := hK (ks.getD g default) (getD_mem' (by omega)); have hxn := hx.2.2.1; have hx1 := hx.1; refine s_skip ?_; refine s_seq (s_region ?_); refine ov (y_assign (v := .slice _ _ _) rfl) (o_nil ?_); refine s_seq ?_; refine s_seq (s_region ?_); refine ov (y_field0 Try.runUnderlying58 rfl Try.sizeOf56 rfl rfl) ?_; refine ov (y_load Try.isAgg56 rfl (cel_own 0 rfl rfl)) ?_; refine ov (y_len Try.runUnderlying56 rfl) ?_; refine ov (y_move (v := .int _ _) rfl) (o_nil ?_); refine s_block ?_; refine s_group ?_; refine s_loop (γ := G1) (fun u => [(2, .slice B m d), (8, .int .i64 g), (10, .slice u.A u.i u.c), (25, .slice (ks.getD g default).A (ks.getD g default).n (ks.getD g default).c), (26, .int .i64 (ks.getD g default).n), (27, .int .i64 u.i)]) (fun u => [[(b3, .cells [.string (ks.getD g default).name, .slice (ks.getD g default).A (ks.getD g default).n (ks.getD g default).c].toArray 58 (0, 0))], u.E]) (fun u => u.i ≤ (ks.getD g default).n ∧ OS u.A u.i u.c 9 1 ((names ((ks.getD g default).fs.take u.i)).map .string) u.E) (fun u => (ks.getD g default).n - u.i) (G1.mk 0 none 0 0 []) ?_ ⟨rfl, rfl, rfl, rfl, rfl, rfl, trivial⟩ (sub_front ⟨_, rfl⟩) ?_
    ·exact ⟨Nat.zero_le _, OS.nil _ _⟩
    ·intro u _f hJ; obtain ⟨hu, ho0⟩ := hJ; refine s_seq (s_region ?_); refine ov (y_lss rfl rfl) (o_nil ?_); refine s_seq ?_; refine s_if rfl (fun h6 => ?_) (fun h7 => ?_)
     ·refine s_skip ?_; refine s_seq ?_; refine s_block ?_; refine s_seq (s_region ?_); refine ov (y_indexAddr Try.runUnderlying56 Try.sizeOf61 (some_at (sz := 2) encF_len (i := 0) hx.2.2.2 (by omega)) rfl rfl (by omega)) ?_; refine ov (y_loads (cs := [_, _, _]) Try.isAgg61 Try.sizeOf61 rfl (by unfold idx; rw [Option.isSome_map]; exact some_at (sz := 2) encF_len (i := 0) hx.2.2.2 (by omega)) rfl (cels_at (sz := 3) encF_len hx.2.2.2.here (by omega))) ?_; refine o_alloc rfl Try.zeroValue61 rfl (fun b8 => ?_); refine o_stores (vs := [(.string _), (.int _ _), (.int _ _)]) 2 rfl Try.sizeOf61 rfl rfl rfl (by simp [Value.oneCell']) (by simp) (o_nil ?_); refine s_region ?_; refine ov (y_move (v := .slice _ _ _) rfl) ?_; refine ov (y_field0 Try.runUnderlying61 rfl Try.sizeOf9 rfl rfl) ?_; refine ov (y_load Try.isAgg9 rfl (cel_own 2 rfl rfl)) ?_; refine o_lit (vs := [(0, .string _)]) rfl rfl (Named_k0 _) (fun b9 => ?_); refine o_append (sz := 1) (bytes := 16) (news := [(.string _)]) 1 rfl Try.underlying93 Try.type9 rfl rfl rfl rfl rfl ho0 rfl rfl (Src.slice Try.underlying93 (cels_own 3 rfl rfl) rfl (by simp [Value.oneCell']) (by simp)) (by omega) (fun A10 c11 E12 ho13 hn14 => ?_); have ho15 : OS A10 (u.i + 1) c11 9 1 ((names ((ks.getD g default).fs.take (u.i + 1))).map .string) E12 := by rw [← names_succ (by omega)]; exact ho13
      clear ho13
      refine ov (y_assign (v := .slice _ _ _) rfl) (o_nil ?_); refine s_region ?_; refine ov (y_add rfl rfl (by simp only [inK]; omega)) ?_; refine ov (y_move (v := .int _ _) rfl) (o_nil ?_); exact ⟨G1.mk (u.i + 1) A10 0 c11 E12, (by first | omega | (dsimp only; omega)), ⟨by dsimp only; omega, ho15⟩, ⟨rfl, rfl, rfl, rfl, rfl, (congrArg (Value.int _) (by dsimp only; omega)), trivial⟩, sub_front ⟨_, rfl⟩⟩
     ·refine s_exit ?_; refine s_seq (s_region ?_); refine ov (y_move (v := .int _ _) rfl) ?_; refine ov (y_move (v := .slice _ _ _) rfl) ?_; refine ov (y_move (v := .slice _ _ _) rfl) ?_; refine o_fn 0 (d := 40) rfl Try.call85 (EqS_c _ _ _ (names ((ks.getD g default).fs.take u.i)) (ho0.cels (j := 1) rfl).down (by rw [names_len, List.length_take, hx.1]; omega) _ _ _ nms h'.here.down hm (by omega)) rfl ?_; rintro _ _ ⟨rfl, rfl⟩; refine ov (y_assign (v := .int _ _) rfl) ?_; refine ov (y_assign (v := .bool _) rfl) (o_nil ?_); refine s_ret ?_; exact ⟨_, [], res2 rfl rfl rfl, ⟨(g : Int), _, rfl, .inr ⟨g, by omega, .inr ⟨g, rfl, by omega, heq, hall⟩, rfl, by rw [show u.i = (ks.getD g default).fs.length by omega, List.take_length]⟩, rfl⟩, sub_picks [] rfl⟩
  ·refine s_exit ?_; refine s_seq (s_region ?_); refine ov (y_assign (v := .int _ _) rfl) ?_; refine ov (y_assign (v := .bool _) rfl) (o_nil ?_); refine s_ret ?_; exact ⟨_, [], res2 rfl rfl rfl, ⟨-1, true, rfl, .inl ⟨.inl ⟨rfl, fun j hj => hall j (by omega)⟩, rfl, rfl⟩, rfl⟩, sub_picks [] rfl⟩

end Go.Proofs.Ytacmbiohjiogiaa.K
end
section
set_option linter.unusedVariables false
set_option linter.unusedSimpArgs false
set_option maxRecDepth 100000
namespace Go.Proofs.Ytacmbiohjiogiaa.K
open Go.RowKit

/-- Where a kind with a name and fields is. -/
def locate (ks : List KR) (nm : ByteArray) (nms : List ByteArray) : Int × Bool :=
 match ks.findIdx? (fun k => decide (k.name = nm)) with
 | none => (-1, true)
 | some j => if names (ks.getD j default).fs = nms then ((j : Int), true) else (-1, false)
theorem locate_spot (ks : List KR) (nm : ByteArray) (nms : List ByteArray) : Spot ks nm nms (locate ks nm nms).1 (locate ks nm nms).2 := by
 unfold locate
 cases h : ks.findIdx? (fun k => decide (k.name = nm)) with
 | none =>
  rw [List.findIdx?_eq_none_iff] at h; refine .inl ⟨.inl ⟨rfl, fun j hj => ?_⟩, rfl, rfl⟩; have := h (ks.getD j default) (getD_mem' hj)
  simpa using this
 | some j =>
  rw [List.findIdx?_eq_some_iff_getElem] at h; obtain ⟨hj, h1, h2⟩ := h; have g1 : (ks.getD j default).name = nm := by rw [List.getD_eq_getElem?_getD, List.getElem?_eq_getElem hj]; simpa using h1
  have g2 : ∀ i, i < j → (ks.getD i default).name ≠ nm := fun i hi => by
   have := h2 i hi; rw [List.getD_eq_getElem?_getD, List.getElem?_eq_getElem (by omega)]; simpa using this
  refine .inr ⟨j, hj, .inr ⟨j, rfl, hj, g1, g2⟩, ?_⟩; dsimp only
  split
  ·rename_i e; exact .inl ⟨e, rfl, rfl⟩
  ·rename_i e; exact .inr ⟨e, rfl, rfl⟩
theorem Spot.eq {ks : List KR} {nm : ByteArray} {nms : List ByteArray} {r : Int} {o : Bool} (h : Spot ks nm nms r o) : r = (locate ks nm nms).1 ∧ o = (locate ks nm nms).2 := h.unique (locate_spot ks nm nms)
theorem NamedOK.eq {ks : List KR} {nm : ByteArray} {nms : List ByteArray} {r : Int} {o : Bool} (h : NamedOK ks nm nms r o) : o = (locate ks nm nms).2 ∧ (o = true → r = (locate ks nm nms).1) := by
 obtain ⟨h1, h2⟩ := named_spot (locate_spot ks nm nms) h; exact ⟨h1.symm, fun hh => (h2 (h1.trans hh)).symm⟩
/-- The map of kinds, and its fault. -/
def ofR (ks : List KR) : (Int × Int × Int) × Int :=
 if ckErr ks ≠ 0 then ((0, 0, 0), ckErr ks) else
 if (locate ks (⟨#[112, 108, 97, 99, 101]⟩ : ByteArray) [(⟨#[120]⟩ : ByteArray), (⟨#[121]⟩ : ByteArray), (⟨#[97, 110, 103]⟩ : ByteArray)]).2 = false then ((0, 0, 0), 8) else
 if (locate ks (⟨#[109, 111, 116, 105, 111, 110]⟩ : ByteArray) [(⟨#[118, 120]⟩ : ByteArray), (⟨#[118, 121]⟩ : ByteArray), (⟨#[115, 112, 105, 110]⟩ : ByteArray), (⟨#[99, 97, 108, 109]⟩ : ByteArray)]).2 = false then ((0, 0, 0), 8) else
 if (locate ks (⟨#[115, 104, 97, 112, 101]⟩ : ByteArray) [(⟨#[119]⟩ : ByteArray), (⟨#[104]⟩ : ByteArray), (⟨#[109, 97, 115, 115]⟩ : ByteArray), (⟨#[98, 111, 117, 110, 99, 101]⟩ : ByteArray), (⟨#[114, 117, 98]⟩ : ByteArray)]).2 = false then ((0, 0, 0), 8) else
 (((locate ks (⟨#[112, 108, 97, 99, 101]⟩ : ByteArray) [(⟨#[120]⟩ : ByteArray), (⟨#[121]⟩ : ByteArray), (⟨#[97, 110, 103]⟩ : ByteArray)]).1, (locate ks (⟨#[109, 111, 116, 105, 111, 110]⟩ : ByteArray) [(⟨#[118, 120]⟩ : ByteArray), (⟨#[118, 121]⟩ : ByteArray), (⟨#[115, 112, 105, 110]⟩ : ByteArray), (⟨#[99, 97, 108, 109]⟩ : ByteArray)]).1, (locate ks (⟨#[115, 104, 97, 112, 101]⟩ : ByteArray) [(⟨#[119]⟩ : ByteArray), (⟨#[104]⟩ : ByteArray), (⟨#[109, 97, 115, 115]⟩ : ByteArray), (⟨#[98, 111, 117, 110, 99, 101]⟩ : ByteArray), (⟨#[114, 117, 98]⟩ : ByteArray)]).1), 0)
def agM (m : Int × Int × Int) : Value := .agg #[.int .i64 m.1, .int .i64 m.2.1, .int .i64 m.2.2]
theorem if8 {o : Bool} (h : ¬ (if o then (0 : Int) else 8) ≠ 0) : o = true := by cases o <;> simp_all
theorem if8' {o : Bool} (h : (if o then (0 : Int) else 8) ≠ 0) : o = false := by cases o <;> simp_all

theorem run_eql_map (a0 a1 a2 b0 b1 b2 : Int) (w : World) : (binOp .eql 105 (.agg #[.int .i64 a0, .int .i64 a1, .int .i64 a2]) (.agg #[.int .i64 b0, .int .i64 b1, .int .i64 b2])).run Try.prog w = .ok (.bool (decide (a0 = b0 ∧ a1 = b1 ∧ a2 = b2))) w := by
 simp [go_sem]
 by_cases h0 : a0 = b0 <;> by_cases h1 : a1 = b1 <;> by_cases h2 : a2 = b2 <;> simp [h0, h1, h2]
theorem y_eql_map {f : Frm} {V : Mem} {L : List Grp} {d : Option Tmp} {ty : TypeId} {ps : String} {af : Array Edge} {g : Option (Nat × Bool)} {x y : Operand} {yt : TypeId} {a0 a1 a2 b0 b1 b2 : Int} (hx : evF f x = .agg #[.int .i64 a0, .int .i64 a1, .int .i64 a2]) (hy : evF f y = .agg #[.int .i64 b0, .int .i64 b1, .int .i64 b2]) :
  Yld Try.prog f V L ⟨d, .binOp .eql 105 x y yt, ty, ps, af, g⟩ (.bool (decide (a0 = b0 ∧ a1 = b1 ∧ a2 = b2))) := fun _ w _ => by
 simp only [execOp, hx, hy, Sem.run_bind, eqGuard_agg (P := Try.prog) (t := 105) (by kernel_rfl), Result.andThen_ok, run_eql_map]
 rfl

theorem Special_k0 (v0 : ByteArray) (v1 : ByteArray) (v2 : ByteArray) (w : World) : (Instr.buildSlice 93 3 ([(0, .string v0), (1, .string v1), (2, .string v2)] : List (Nat × Value)).toArray).run Try.prog w = .ok (.slice (some ⟨w.heap.size, 0, none⟩) 3 3) { w with heap := w.heap.push (.cells ([.string v0, .string v1, .string v2] : List Value).toArray 9 (0, 0)) } := by kernel_rfl
theorem Special_k1 (v0 : ByteArray) (v1 : ByteArray) (v2 : ByteArray) (v3 : ByteArray) (w : World) : (Instr.buildSlice 93 4 ([(0, .string v0), (1, .string v1), (2, .string v2), (3, .string v3)] : List (Nat × Value)).toArray).run Try.prog w = .ok (.slice (some ⟨w.heap.size, 0, none⟩) 4 4) { w with heap := w.heap.push (.cells ([.string v0, .string v1, .string v2, .string v3] : List Value).toArray 9 (0, 0)) } := by kernel_rfl
theorem Special_k2 (v0 : ByteArray) (v1 : ByteArray) (v2 : ByteArray) (v3 : ByteArray) (v4 : ByteArray) (w : World) : (Instr.buildSlice 93 5 ([(0, .string v0), (1, .string v1), (2, .string v2), (3, .string v3), (4, .string v4)] : List (Nat × Value)).toArray).run Try.prog w = .ok (.slice (some ⟨w.heap.size, 0, none⟩) 5 5) { w with heap := w.heap.push (.cells ([.string v0, .string v1, .string v2, .string v3, .string v4] : List Value).toArray 9 (0, 0)) } := by kernel_rfl
theorem Special_k3 (v0 : ByteArray) (w : World) : (Instr.buildSlice 93 1 ([(0, .string v0)] : List (Nat × Value)).toArray).run Try.prog w = .ok (.slice (some ⟨w.heap.size, 0, none⟩) 1 1) { w with heap := w.heap.push (.cells ([.string v0] : List Value).toArray 9 (0, 0)) } := by kernel_rfl
theorem Special_c {V : Mem} (A : Option Addr) (n c : Nat) (ks : List KR) (h : Cels V [] A (ks.flatMap encK)) (hn : ks.length = n) (hc : n ≤ c) (hb : n ≤ 140737488355328) (hK : ∀ k ∈ ks, KOK V k) : CallS Try.prog 58 [.slice A n c].toArray V [] (fun r L' => ∃ k0 k1 k2 k3 k4 o0 o1 o2 o3 o4, r = .tuple #[.agg #[.int .i64 k0, .int .i64 k1, .int .i64 k2, .int .i64 k3, .int .i64 k4], .agg #[.bool o0, .bool o1, .bool o2, .bool o3, .bool o4]] ∧ NamedOK ks (⟨#[112, 108, 97, 99, 101]⟩ : ByteArray) [(⟨#[120]⟩ : ByteArray), (⟨#[121]⟩ : ByteArray), (⟨#[97, 110, 103]⟩ : ByteArray)] k0 o0 ∧ NamedOK ks (⟨#[109, 111, 116, 105, 111, 110]⟩ : ByteArray) [(⟨#[118, 120]⟩ : ByteArray), (⟨#[118, 121]⟩ : ByteArray), (⟨#[115, 112, 105, 110]⟩ : ByteArray), (⟨#[99, 97, 108, 109]⟩ : ByteArray)] k1 o1 ∧ NamedOK ks (⟨#[115, 104, 97, 112, 101]⟩ : ByteArray) [(⟨#[119]⟩ : ByteArray), (⟨#[104]⟩ : ByteArray), (⟨#[109, 97, 115, 115]⟩ : ByteArray), (⟨#[98, 111, 117, 110, 99, 101]⟩ : ByteArray), (⟨#[114, 117, 98]⟩ : ByteArray)] k2 o2 ∧ NamedOK ks (⟨#[105, 110, 112, 117, 116]⟩ : ByteArray) [(⟨#[112, 108, 97, 121, 101, 114]⟩ : ByteArray), (⟨#[107, 101, 121, 115]⟩ : ByteArray), (⟨#[120]⟩ : ByteArray), (⟨#[121]⟩ : ByteArray)] k3 o3 ∧ NamedOK ks (⟨#[109, 105, 110, 100]⟩ : ByteArray) [(⟨#[112, 114, 111, 103]⟩ : ByteArray)] k4 o4 ∧ L' = []) := by
 refine callS Try.func58 rfl rfl (fun w0 => ?_); refine s_seq (s_region ?_); refine o_alloc rfl Try.zeroValue130 rfl (fun b1 => ?_); refine o_alloc rfl Try.zeroValue131 rfl (fun b2 => ?_); refine o_nil ?_; refine s_seq (s_region ?_); refine ov (y_move (v := .slice _ _ _) rfl) ?_; refine o_lit (vs := [(0, .string _), (1, .string _), (2, .string _)]) rfl rfl (Special_k0 _ _ _) (fun b3 => ?_); refine o_fn 0 (d := 7) rfl Try.call141 (Named_c _ _ _ ks h.here.down hn hb (fun k hk => (hK k hk).lift) _ _ _ _ [(⟨#[120]⟩ : ByteArray), (⟨#[121]⟩ : ByteArray), (⟨#[97, 110, 103]⟩ : ByteArray)] (cels_own (cs := ([(⟨#[120]⟩ : ByteArray), (⟨#[121]⟩ : ByteArray), (⟨#[97, 110, 103]⟩ : ByteArray)]).map .string) 2 rfl rfl).down rfl) rfl ?_; rintro _ _ ⟨k0, o0, rfl, hs0, rfl⟩; refine ov (y_move (v := (.tuple #[(.int _ _), (.bool _)])) rfl) ?_; refine ov (y_extract (v := .int _ _) rfl rfl) ?_; refine ov (y_extract (v := .bool _) rfl rfl) ?_; refine ov (y_index_lit (q := 0) Try.runUnderlying130 Try.sizeOf3 rfl rfl rfl rfl) ?_; refine o_store (v := .int _ _) 0 rfl Try.sizeOf3 rfl rfl rfl rfl ?_; refine ov (y_index_lit (q := 0) Try.runUnderlying131 Try.sizeOf4 rfl rfl rfl rfl) ?_; refine o_store (v := .bool _) 1 rfl Try.sizeOf4 rfl rfl rfl rfl (o_nil ?_); refine s_norm [[(_, .cells [(.int _ _), (.int _ _), (.int _ _), (.int _ _), (.int _ _)].toArray 130 (0, 0))], [(_, .cells [(.bool _), (.bool _), (.bool _), (.bool _), (.bool _)].toArray 131 (0, 0))], [(_, .cells [(.string _), (.string _), (.string _)].toArray 9 (0, 0))]] rfl ?_; refine s_seq (s_region ?_); refine ov (y_move (v := .slice _ _ _) rfl) ?_; refine o_lit (vs := [(0, .string _), (1, .string _), (2, .string _), (3, .string _)]) rfl rfl (Special_k1 _ _ _ _) (fun b4 => ?_); refine o_fn 0 (d := 15) rfl Try.call141 (Named_c _ _ _ ks h.here.down hn hb (fun k hk => (hK k hk).lift) _ _ _ _ [(⟨#[118, 120]⟩ : ByteArray), (⟨#[118, 121]⟩ : ByteArray), (⟨#[115, 112, 105, 110]⟩ : ByteArray), (⟨#[99, 97, 108, 109]⟩ : ByteArray)] (cels_own (cs := ([(⟨#[118, 120]⟩ : ByteArray), (⟨#[118, 121]⟩ : ByteArray), (⟨#[115, 112, 105, 110]⟩ : ByteArray), (⟨#[99, 97, 108, 109]⟩ : ByteArray)]).map .string) 3 rfl rfl).down rfl) rfl ?_; rintro _ _ ⟨k1, o1, rfl, hs1, rfl⟩; refine ov (y_move (v := (.tuple #[(.int _ _), (.bool _)])) rfl) ?_; refine ov (y_extract (v := .int _ _) rfl rfl) ?_; refine ov (y_extract (v := .bool _) rfl rfl) ?_; refine ov (y_index_lit (q := 1) Try.runUnderlying130 Try.sizeOf3 rfl rfl rfl rfl) ?_; refine o_store (v := .int _ _) 0 rfl Try.sizeOf3 rfl rfl rfl rfl ?_; refine ov (y_index_lit (q := 1) Try.runUnderlying131 Try.sizeOf4 rfl rfl rfl rfl) ?_; refine o_store (v := .bool _) 1 rfl Try.sizeOf4 rfl rfl rfl rfl (o_nil ?_); refine s_norm [[(_, .cells [(.int _ _), (.int _ _), (.int _ _), (.int _ _), (.int _ _)].toArray 130 (0, 0))], [(_, .cells [(.bool _), (.bool _), (.bool _), (.bool _), (.bool _)].toArray 131 (0, 0))], [(_, .cells [(.string _), (.string _), (.string _)].toArray 9 (0, 0))], [(_, .cells [(.string _), (.string _), (.string _), (.string _)].toArray 9 (0, 0))]] rfl ?_; refine s_forget [(0, .slice _ _ _), (2, .pointer _), (3, .pointer _)] ⟨rfl, rfl, rfl, trivial⟩ (fun _f => ?_); refine s_seq (s_region ?_); refine ov (y_move (v := .slice _ _ _) rfl) ?_; refine o_lit (vs := [(0, .string _), (1, .string _), (2, .string _), (3, .string _), (4, .string _)]) rfl rfl (Special_k2 _ _ _ _ _) (fun b5 => ?_); refine o_fn 0 (d := 23) rfl Try.call141 (Named_c _ _ _ ks h.here.down hn hb (fun k hk => (hK k hk).lift) _ _ _ _ [(⟨#[119]⟩ : ByteArray), (⟨#[104]⟩ : ByteArray), (⟨#[109, 97, 115, 115]⟩ : ByteArray), (⟨#[98, 111, 117, 110, 99, 101]⟩ : ByteArray), (⟨#[114, 117, 98]⟩ : ByteArray)] (cels_own (cs := ([(⟨#[119]⟩ : ByteArray), (⟨#[104]⟩ : ByteArray), (⟨#[109, 97, 115, 115]⟩ : ByteArray), (⟨#[98, 111, 117, 110, 99, 101]⟩ : ByteArray), (⟨#[114, 117, 98]⟩ : ByteArray)]).map .string) 4 rfl rfl).down rfl) rfl ?_; rintro _ _ ⟨k2, o2, rfl, hs2, rfl⟩; refine ov (y_move (v := (.tuple #[(.int _ _), (.bool _)])) rfl) ?_; refine ov (y_extract (v := .int _ _) rfl rfl) ?_; refine ov (y_extract (v := .bool _) rfl rfl) ?_; refine ov (y_index_lit (q := 2) Try.runUnderlying130 Try.sizeOf3 rfl rfl rfl rfl) ?_; refine o_store (v := .int _ _) 0 rfl Try.sizeOf3 rfl rfl rfl rfl ?_; refine ov (y_index_lit (q := 2) Try.runUnderlying131 Try.sizeOf4 rfl rfl rfl rfl) ?_; refine o_store (v := .bool _) 1 rfl Try.sizeOf4 rfl rfl rfl rfl (o_nil ?_); refine s_norm [[(_, .cells [(.int _ _), (.int _ _), (.int _ _), (.int _ _), (.int _ _)].toArray 130 (0, 0))], [(_, .cells [(.bool _), (.bool _), (.bool _), (.bool _), (.bool _)].toArray 131 (0, 0))], [(_, .cells [(.string _), (.string _), (.string _)].toArray 9 (0, 0))], [(_, .cells [(.string _), (.string _), (.string _), (.string _)].toArray 9 (0, 0))], [(_, .cells [(.string _), (.string _), (.string _), (.string _), (.string _)].toArray 9 (0, 0))]] rfl ?_; refine s_seq (s_region ?_); refine ov (y_move (v := .slice _ _ _) rfl) ?_; refine o_lit (vs := [(0, .string _), (1, .string _), (2, .string _), (3, .string _)]) rfl rfl (Special_k1 _ _ _ _) (fun b6 => ?_); refine o_fn 0 (d := 31) rfl Try.call141 (Named_c _ _ _ ks h.here.down hn hb (fun k hk => (hK k hk).lift) _ _ _ _ [(⟨#[112, 108, 97, 121, 101, 114]⟩ : ByteArray), (⟨#[107, 101, 121, 115]⟩ : ByteArray), (⟨#[120]⟩ : ByteArray), (⟨#[121]⟩ : ByteArray)] (cels_own (cs := ([(⟨#[112, 108, 97, 121, 101, 114]⟩ : ByteArray), (⟨#[107, 101, 121, 115]⟩ : ByteArray), (⟨#[120]⟩ : ByteArray), (⟨#[121]⟩ : ByteArray)]).map .string) 5 rfl rfl).down rfl) rfl ?_; rintro _ _ ⟨k3, o3, rfl, hs3, rfl⟩; refine ov (y_move (v := (.tuple #[(.int _ _), (.bool _)])) rfl) ?_; refine ov (y_extract (v := .int _ _) rfl rfl) ?_; refine ov (y_extract (v := .bool _) rfl rfl) ?_; refine ov (y_index_lit (q := 3) Try.runUnderlying130 Try.sizeOf3 rfl rfl rfl rfl) ?_; refine o_store (v := .int _ _) 0 rfl Try.sizeOf3 rfl rfl rfl rfl ?_; refine ov (y_index_lit (q := 3) Try.runUnderlying131 Try.sizeOf4 rfl rfl rfl rfl) ?_; refine o_store (v := .bool _) 1 rfl Try.sizeOf4 rfl rfl rfl rfl (o_nil ?_); refine s_norm [[(_, .cells [(.int _ _), (.int _ _), (.int _ _), (.int _ _), (.int _ _)].toArray 130 (0, 0))], [(_, .cells [(.bool _), (.bool _), (.bool _), (.bool _), (.bool _)].toArray 131 (0, 0))], [(_, .cells [(.string _), (.string _), (.string _)].toArray 9 (0, 0))], [(_, .cells [(.string _), (.string _), (.string _), (.string _)].toArray 9 (0, 0))], [(_, .cells [(.string _), (.string _), (.string _), (.string _), (.string _)].toArray 9 (0, 0))], [(_, .cells [(.string _), (.string _), (.string _), (.string _)].toArray 9 (0, 0))]] rfl ?_; refine s_forget [(0, .slice _ _ _), (2, .pointer _), (3, .pointer _)] ⟨rfl, rfl, rfl, trivial⟩ (fun _f => ?_); refine s_seq (s_region ?_); refine ov (y_move (v := .slice _ _ _) rfl) ?_; refine o_lit (vs := [(0, .string _)]) rfl rfl (Special_k3 _) (fun b7 => ?_); refine o_fn 0 (d := 39) rfl Try.call141 (Named_c _ _ _ ks h.here.down hn hb (fun k hk => (hK k hk).lift) _ _ _ _ [(⟨#[112, 114, 111, 103]⟩ : ByteArray)] (cels_own (cs := ([(⟨#[112, 114, 111, 103]⟩ : ByteArray)]).map .string) 6 rfl rfl).down rfl) rfl ?_; rintro _ _ ⟨k4, o4, rfl, hs4, rfl⟩; refine ov (y_move (v := (.tuple #[(.int _ _), (.bool _)])) rfl) ?_; refine ov (y_extract (v := .int _ _) rfl rfl) ?_; refine ov (y_extract (v := .bool _) rfl rfl) ?_; refine ov (y_index_lit (q := 4) Try.runUnderlying130 Try.sizeOf3 rfl rfl rfl rfl) ?_; refine o_store (v := .int _ _) 0 rfl Try.sizeOf3 rfl rfl rfl rfl ?_; refine ov (y_index_lit (q := 4) Try.runUnderlying131 Try.sizeOf4 rfl rfl rfl rfl) ?_; refine o_store (v := .bool _) 1 rfl Try.sizeOf4 rfl rfl rfl rfl (o_nil ?_); refine s_norm [[(_, .cells [(.int _ _), (.int _ _), (.int _ _), (.int _ _), (.int _ _)].toArray 130 (0, 0))], [(_, .cells [(.bool _), (.bool _), (.bool _), (.bool _), (.bool _)].toArray 131 (0, 0))], [(_, .cells [(.string _), (.string _), (.string _)].toArray 9 (0, 0))], [(_, .cells [(.string _), (.string _), (.string _), (.string _)].toArray 9 (0, 0))], [(_, .cells [(.string _), (.string _), (.string _), (.string _), (.string _)].toArray 9 (0, 0))], [(_, .cells [(.string _), (.string _), (.string _), (.string _)].toArray 9 (0, 0))], [(_, .cells [(.string _)].toArray 9 (0, 0))]] rfl ?_; refine s_seq ?_; refine s_drawn 0 (by kernel_rfl) ?_; refine dv 0 rfl rfl (y_loads (cs := [_, _, _, _, _]) Try.isAgg130 Try.sizeOf130 rfl rfl rfl (cels_own 0 rfl rfl)) ?_; refine dv 1 rfl rfl (y_loads (cs := [_, _, _, _, _]) Try.isAgg131 Try.sizeOf131 rfl rfl rfl (cels_own 1 rfl rfl)) ?_; refine d_eff (k := 2) (n := 0) (m := 7) rfl (by kernel_rfl) rfl ?_; refine o_stores (vs := [(.int _ _), (.int _ _), (.int _ _), (.int _ _), (.int _ _)]) 0 rfl Try.sizeOf130 rfl rfl rfl (by simp [Value.oneCell']) (by simp) (o_nil ?_); refine d_eff (k := 3) (n := 0) (m := 7) rfl (by kernel_rfl) rfl ?_; refine o_stores (vs := [(.bool _), (.bool _), (.bool _), (.bool _), (.bool _)]) 1 rfl Try.sizeOf131 rfl rfl rfl (by simp [Value.oneCell']) (by simp) (o_nil ?_); refine d_nil (n := 0) (m := 7) (by kernel_rfl) rfl ?_; refine s_norm [[(_, .cells [(.int _ _), (.int _ _), (.int _ _), (.int _ _), (.int _ _)].toArray 130 (0, 0))], [(_, .cells [(.bool _), (.bool _), (.bool _), (.bool _), (.bool _)].toArray 131 (0, 0))], [(_, .cells [(.string _), (.string _), (.string _)].toArray 9 (0, 0))], [(_, .cells [(.string _), (.string _), (.string _), (.string _)].toArray 9 (0, 0))], [(_, .cells [(.string _), (.string _), (.string _), (.string _), (.string _)].toArray 9 (0, 0))], [(_, .cells [(.string _), (.string _), (.string _), (.string _)].toArray 9 (0, 0))], [(_, .cells [(.string _)].toArray 9 (0, 0))]] rfl ?_; refine s_ret ?_; exact ⟨_, [], resv2 rfl (RV.cells (cs := [.int .i64 k0, .int .i64 k1, .int .i64 k2, .int .i64 k3, .int .i64 k4]) rfl Try.isAgg130 Try.sizeOf130 rfl rfl (cels_own 0 rfl rfl)) (RV.cells (cs := [.bool o0, .bool o1, .bool o2, .bool o3, .bool o4]) rfl Try.isAgg131 Try.sizeOf131 rfl rfl (cels_own 1 rfl rfl)), ⟨k0, k1, k2, k3, k4, o0, o1, o2, o3, o4, rfl, hs0, hs1, hs2, hs3, hs4, rfl⟩, sub_picks [] rfl⟩

theorem Of_k0 (w : World) : (Instr.build 105 ([] : List (Nat × Value)).toArray).run Try.prog w = .ok (.agg #[.int .i64 0, .int .i64 0, .int .i64 0]) w := by kernel_rfl
theorem Of_k1 (v0 : ByteArray) (v1 : ByteArray) (v2 : ByteArray) (w : World) : (Instr.buildSlice 93 3 ([(0, .string v0), (1, .string v1), (2, .string v2)] : List (Nat × Value)).toArray).run Try.prog w = .ok (.slice (some ⟨w.heap.size, 0, none⟩) 3 3) { w with heap := w.heap.push (.cells ([.string v0, .string v1, .string v2] : List Value).toArray 9 (0, 0)) } := by kernel_rfl
theorem Of_k2 (v0 : ByteArray) (v1 : ByteArray) (v2 : ByteArray) (v3 : ByteArray) (w : World) : (Instr.buildSlice 93 4 ([(0, .string v0), (1, .string v1), (2, .string v2), (3, .string v3)] : List (Nat × Value)).toArray).run Try.prog w = .ok (.slice (some ⟨w.heap.size, 0, none⟩) 4 4) { w with heap := w.heap.push (.cells ([.string v0, .string v1, .string v2, .string v3] : List Value).toArray 9 (0, 0)) } := by kernel_rfl
theorem Of_k3 (v0 : ByteArray) (v1 : ByteArray) (v2 : ByteArray) (v3 : ByteArray) (v4 : ByteArray) (w : World) : (Instr.buildSlice 93 5 ([(0, .string v0), (1, .string v1), (2, .string v2), (3, .string v3), (4, .string v4)] : List (Nat × Value)).toArray).run Try.prog w = .ok (.slice (some ⟨w.heap.size, 0, none⟩) 5 5) { w with heap := w.heap.push (.cells ([.string v0, .string v1, .string v2, .string v3, .string v4] : List Value).toArray 9 (0, 0)) } := by kernel_rfl
theorem Of_c {V : Mem} (A : Option Addr) (n c : Nat) (ks : List KR) (h : Cels V [] A (ks.flatMap encK)) (hn : ks.length = n) (hc : n ≤ c) (hb : n ≤ 140737488355328) (hK : ∀ k ∈ ks, KOK V k) : CallS Try.prog 72 [.slice A n c].toArray V [] (fun r L' => r = .tuple #[agM (ofR ks).1, .int .i64 (ofR ks).2] ∧ L' = []) := by
 refine callS Try.func72 rfl rfl (fun w0 => ?_); refine s_seq (s_region ?_); refine o_alloc rfl Try.zeroValue105 rfl (fun b1 => ?_); refine ov (y_assign (v := .int _ _) rfl) (o_nil ?_); refine s_seq ?_; refine s_seq (s_region ?_); refine ov (y_move (v := .slice _ _ _) rfl) ?_; refine o_fn 0 (d := 8) rfl Try.call97 (CheckK_c _ _ _ ks h.here.down hn hc hb (fun k hk => (hK k hk).lift)) rfl ?_; rintro _ _ ⟨rfl, rfl⟩; refine ov (y_assign (v := .int _ _) rfl) (o_nil ?_); refine s_seq (s_region ?_); refine ov (y_move (v := .int _ _) rfl) ?_; refine ov (y_neq rfl rfl) (o_nil ?_); refine s_if rfl (fun h2 => ?_) (fun h3 => ?_)
 ·have c0 := h2; refine s_seq (s_region ?_); refine ov (y_build (vs := []) rfl (Of_k0)) ?_; refine ov (y_move (v := .int _ _) rfl) ?_; refine o_stores (vs := [(.int _ _), (.int _ _), (.int _ _)]) 0 rfl Try.sizeOf105 rfl rfl rfl (by simp [Value.oneCell']) (by simp) ?_; refine ov (y_assign (v := .int _ _) rfl) (o_nil ?_); refine s_ret ?_; exact ⟨_, [], resv2 rfl (RV.cells rfl Try.isAgg105 Try.sizeOf105 rfl rfl (cels_own 0 rfl rfl)) (RV.tmp rfl), ⟨by unfold ofR; rw [if_pos (show ckErr ks ≠ 0 from c0)]; rfl, rfl⟩, sub_picks [] rfl⟩
 ·have c0 := Decidable.not_not.1 h3; refine s_skip ?_; refine s_seq (s_region ?_); refine o_alloc rfl Try.zeroValue105 rfl (fun b4 => ?_); refine o_nil ?_; refine s_seq (s_region ?_); refine ov (y_assign (v := .int _ _) rfl) (o_nil ?_); refine s_seq ?_; refine s_seq (s_region ?_); refine ov (y_move (v := .slice _ _ _) rfl) ?_; refine o_lit (vs := [(0, .string _), (1, .string _), (2, .string _)]) rfl rfl (Of_k1 _ _ _) (fun b5 => ?_); refine o_fn 0 (d := 16) rfl Try.call146 (find_c _ _ _ ks h.here.down hn hb (fun k hk => (hK k hk).lift) _ _ _ _ [(⟨#[120]⟩ : ByteArray), (⟨#[121]⟩ : ByteArray), (⟨#[97, 110, 103]⟩ : ByteArray)] (cels_own (cs := ([(⟨#[120]⟩ : ByteArray), (⟨#[121]⟩ : ByteArray), (⟨#[97, 110, 103]⟩ : ByteArray)]).map .string) 2 rfl rfl).down rfl) rfl ?_; rintro _ _ ⟨k0, o0, rfl, hs0, rfl⟩; obtain ⟨e0, f0⟩ := hs0.eq; refine ov (y_move (v := (.tuple #[(.int _ _), (.int _ _)])) rfl) ?_; refine ov (y_extract (v := .int _ _) rfl rfl) ?_; refine ov (y_extract (v := .int _ _) rfl rfl) ?_; refine ov (y_field0 Try.runUnderlying105 rfl Try.sizeOf3 rfl rfl) ?_; refine o_store (v := .int _ _) 1 rfl Try.sizeOf3 rfl rfl rfl rfl ?_; refine ov (y_assign (v := .int _ _) rfl) (o_nil ?_); refine s_forget [(0, .slice _ _ _), (2, .pointer _), (3, .int _ _), (5, .pointer _), (6, .int _ _)] ⟨rfl, rfl, rfl, rfl, rfl, trivial⟩ (fun _f => ?_); refine s_seq (s_region ?_); refine ov (y_move (v := .int _ _) rfl) ?_; refine ov (y_neq rfl rfl) (o_nil ?_); refine s_if rfl (fun h6 => ?_) (fun h7 => ?_)
  ·have q0 := h6; refine s_seq (s_region ?_); refine ov (y_build (vs := []) rfl (Of_k0)) ?_; refine ov (y_move (v := .int _ _) rfl) ?_; refine o_stores (vs := [(.int _ _), (.int _ _), (.int _ _)]) 0 rfl Try.sizeOf105 rfl rfl rfl (by simp [Value.oneCell']) (by simp) ?_; refine ov (y_assign (v := .int _ _) rfl) (o_nil ?_); refine s_norm [[(_, .cells [(.int _ _), (.int _ _), (.int _ _)].toArray 105 (0, 0))], [(_, .cells [(.int _ _), (.int _ _), (.int _ _)].toArray 105 (0, 0))], [(_, .cells [(.string _), (.string _), (.string _)].toArray 9 (0, 0))]] rfl ?_; refine s_ret ?_; exact ⟨_, [], resv2 rfl (RV.cells rfl Try.isAgg105 Try.sizeOf105 rfl rfl (cels_own 0 rfl rfl)) (RV.tmp rfl), ⟨by unfold ofR; rw [if_neg (show ¬ (ckErr ks ≠ 0) from fun hh => hh c0)]; rw [if_pos (show (locate ks (⟨#[112, 108, 97, 99, 101]⟩ : ByteArray) [(⟨#[120]⟩ : ByteArray), (⟨#[121]⟩ : ByteArray), (⟨#[97, 110, 103]⟩ : ByteArray)]).2 = false from by rw [← f0]; exact if8' q0)]; rw [if8' q0]; rfl, rfl⟩, sub_picks [] rfl⟩
  ·have q0 := h7; refine s_skip ?_; refine s_seq ?_; refine s_seq (s_region ?_); refine ov (y_move (v := .slice _ _ _) rfl) ?_; refine o_lit (vs := [(0, .string _), (1, .string _), (2, .string _), (3, .string _)]) rfl rfl (Of_k2 _ _ _ _) (fun b8 => ?_); refine o_fn 0 (d := 27) rfl Try.call146 (find_c _ _ _ ks h.here.down hn hb (fun k hk => (hK k hk).lift) _ _ _ _ [(⟨#[118, 120]⟩ : ByteArray), (⟨#[118, 121]⟩ : ByteArray), (⟨#[115, 112, 105, 110]⟩ : ByteArray), (⟨#[99, 97, 108, 109]⟩ : ByteArray)] (cels_own (cs := ([(⟨#[118, 120]⟩ : ByteArray), (⟨#[118, 121]⟩ : ByteArray), (⟨#[115, 112, 105, 110]⟩ : ByteArray), (⟨#[99, 97, 108, 109]⟩ : ByteArray)]).map .string) 3 rfl rfl).down rfl) rfl ?_; rintro _ _ ⟨k1, o1, rfl, hs1, rfl⟩; obtain ⟨e1, f1⟩ := hs1.eq; refine ov (y_move (v := (.tuple #[(.int _ _), (.int _ _)])) rfl) ?_; refine ov (y_extract (v := .int _ _) rfl rfl) ?_; refine ov (y_extract (v := .int _ _) rfl rfl) ?_; refine ov (y_field0 Try.runUnderlying105 rfl Try.sizeOf3 rfl rfl) ?_; refine o_store (v := .int _ _) 1 rfl Try.sizeOf3 rfl rfl rfl rfl ?_; refine ov (y_assign (v := .int _ _) rfl) (o_nil ?_); refine s_norm [[(_, .cells [(.int _ _), (.int _ _), (.int _ _)].toArray 105 (0, 0))], [(_, .cells [(.int _ _), (.int _ _), (.int _ _)].toArray 105 (0, 0))], [(_, .cells [(.string _), (.string _), (.string _)].toArray 9 (0, 0))], [(_, .cells [(.string _), (.string _), (.string _), (.string _)].toArray 9 (0, 0))]] rfl ?_; refine s_seq (s_region ?_); refine ov (y_move (v := .int _ _) rfl) ?_; refine ov (y_neq rfl rfl) (o_nil ?_); refine s_if rfl (fun h9 => ?_) (fun h10 => ?_)
   ·have q1 := h9; refine s_seq (s_region ?_); refine ov (y_build (vs := []) rfl (Of_k0)) ?_; refine ov (y_move (v := .int _ _) rfl) ?_; refine o_stores (vs := [(.int _ _), (.int _ _), (.int _ _)]) 0 rfl Try.sizeOf105 rfl rfl rfl (by simp [Value.oneCell']) (by simp) ?_; refine ov (y_assign (v := .int _ _) rfl) (o_nil ?_); refine s_ret ?_; exact ⟨_, [], resv2 rfl (RV.cells rfl Try.isAgg105 Try.sizeOf105 rfl rfl (cels_own 0 rfl rfl)) (RV.tmp rfl), ⟨by unfold ofR; rw [if_neg (show ¬ (ckErr ks ≠ 0) from fun hh => hh c0)]; rw [if_neg (show ¬ (locate ks (⟨#[112, 108, 97, 99, 101]⟩ : ByteArray) [(⟨#[120]⟩ : ByteArray), (⟨#[121]⟩ : ByteArray), (⟨#[97, 110, 103]⟩ : ByteArray)]).2 = false from by rw [← f0, if8 q0]; decide)]; rw [if_pos (show (locate ks (⟨#[109, 111, 116, 105, 111, 110]⟩ : ByteArray) [(⟨#[118, 120]⟩ : ByteArray), (⟨#[118, 121]⟩ : ByteArray), (⟨#[115, 112, 105, 110]⟩ : ByteArray), (⟨#[99, 97, 108, 109]⟩ : ByteArray)]).2 = false from by rw [← f1]; exact if8' q1)]; rw [if8' q1]; rfl, rfl⟩, sub_picks [] rfl⟩
   ·have q1 := h10; refine s_skip ?_; refine s_seq ?_; refine s_seq (s_region ?_); refine ov (y_move (v := .slice _ _ _) rfl) ?_; refine o_lit (vs := [(0, .string _), (1, .string _), (2, .string _), (3, .string _), (4, .string _)]) rfl rfl (Of_k3 _ _ _ _ _) (fun b11 => ?_); refine o_fn 0 (d := 38) rfl Try.call146 (find_c _ _ _ ks h.here.down hn hb (fun k hk => (hK k hk).lift) _ _ _ _ [(⟨#[119]⟩ : ByteArray), (⟨#[104]⟩ : ByteArray), (⟨#[109, 97, 115, 115]⟩ : ByteArray), (⟨#[98, 111, 117, 110, 99, 101]⟩ : ByteArray), (⟨#[114, 117, 98]⟩ : ByteArray)] (cels_own (cs := ([(⟨#[119]⟩ : ByteArray), (⟨#[104]⟩ : ByteArray), (⟨#[109, 97, 115, 115]⟩ : ByteArray), (⟨#[98, 111, 117, 110, 99, 101]⟩ : ByteArray), (⟨#[114, 117, 98]⟩ : ByteArray)]).map .string) 4 rfl rfl).down rfl) rfl ?_; rintro _ _ ⟨k2, o2, rfl, hs2, rfl⟩; obtain ⟨e2, f2⟩ := hs2.eq; refine ov (y_move (v := (.tuple #[(.int _ _), (.int _ _)])) rfl) ?_; refine ov (y_extract (v := .int _ _) rfl rfl) ?_; refine ov (y_extract (v := .int _ _) rfl rfl) ?_; refine ov (y_field0 Try.runUnderlying105 rfl Try.sizeOf3 rfl rfl) ?_; refine o_store (v := .int _ _) 1 rfl Try.sizeOf3 rfl rfl rfl rfl ?_; refine ov (y_assign (v := .int _ _) rfl) (o_nil ?_); refine s_forget [(2, .pointer _), (3, .int _ _), (5, .pointer _), (6, .int _ _)] ⟨rfl, rfl, rfl, rfl, trivial⟩ (fun _f => ?_); refine s_seq (s_region ?_); refine ov (y_move (v := .int _ _) rfl) ?_; refine ov (y_neq rfl rfl) (o_nil ?_); refine s_if rfl (fun h12 => ?_) (fun h13 => ?_)
    ·have q2 := h12; refine s_seq (s_region ?_); refine ov (y_build (vs := []) rfl (Of_k0)) ?_; refine ov (y_move (v := .int _ _) rfl) ?_; refine o_stores (vs := [(.int _ _), (.int _ _), (.int _ _)]) 0 rfl Try.sizeOf105 rfl rfl rfl (by simp [Value.oneCell']) (by simp) ?_; refine ov (y_assign (v := .int _ _) rfl) (o_nil ?_); refine s_norm [[(_, .cells [(.int _ _), (.int _ _), (.int _ _)].toArray 105 (0, 0))], [(_, .cells [(.int _ _), (.int _ _), (.int _ _)].toArray 105 (0, 0))], [(_, .cells [(.string _), (.string _), (.string _)].toArray 9 (0, 0))], [(_, .cells [(.string _), (.string _), (.string _), (.string _)].toArray 9 (0, 0))], [(_, .cells [(.string _), (.string _), (.string _), (.string _), (.string _)].toArray 9 (0, 0))]] rfl ?_; refine s_ret ?_; exact ⟨_, [], resv2 rfl (RV.cells rfl Try.isAgg105 Try.sizeOf105 rfl rfl (cels_own 0 rfl rfl)) (RV.tmp rfl), ⟨by unfold ofR; rw [if_neg (show ¬ (ckErr ks ≠ 0) from fun hh => hh c0)]; rw [if_neg (show ¬ (locate ks (⟨#[112, 108, 97, 99, 101]⟩ : ByteArray) [(⟨#[120]⟩ : ByteArray), (⟨#[121]⟩ : ByteArray), (⟨#[97, 110, 103]⟩ : ByteArray)]).2 = false from by rw [← f0, if8 q0]; decide)]; rw [if_neg (show ¬ (locate ks (⟨#[109, 111, 116, 105, 111, 110]⟩ : ByteArray) [(⟨#[118, 120]⟩ : ByteArray), (⟨#[118, 121]⟩ : ByteArray), (⟨#[115, 112, 105, 110]⟩ : ByteArray), (⟨#[99, 97, 108, 109]⟩ : ByteArray)]).2 = false from by rw [← f1, if8 q1]; decide)]; rw [if_pos (show (locate ks (⟨#[115, 104, 97, 112, 101]⟩ : ByteArray) [(⟨#[119]⟩ : ByteArray), (⟨#[104]⟩ : ByteArray), (⟨#[109, 97, 115, 115]⟩ : ByteArray), (⟨#[98, 111, 117, 110, 99, 101]⟩ : ByteArray), (⟨#[114, 117, 98]⟩ : ByteArray)]).2 = false from by rw [← f2]; exact if8' q2)]; rw [if8' q2]; rfl, rfl⟩, sub_picks [] rfl⟩
    ·have q2 := h13; refine s_skip ?_; refine s_seq (s_region ?_); refine ov (y_loads (cs := [_, _, _]) Try.isAgg105 Try.sizeOf105 rfl rfl rfl (cels_own 1 rfl rfl)) ?_; refine o_stores (vs := [(.int _ _), (.int _ _), (.int _ _)]) 0 rfl Try.sizeOf105 rfl rfl rfl (by simp [Value.oneCell']) (by simp) ?_; refine ov (y_assign (v := .int _ _) rfl) (o_nil ?_); refine s_norm [[(_, .cells [(.int _ _), (.int _ _), (.int _ _)].toArray 105 (0, 0))], [(_, .cells [(.int _ _), (.int _ _), (.int _ _)].toArray 105 (0, 0))], [(_, .cells [(.string _), (.string _), (.string _)].toArray 9 (0, 0))], [(_, .cells [(.string _), (.string _), (.string _), (.string _)].toArray 9 (0, 0))], [(_, .cells [(.string _), (.string _), (.string _), (.string _), (.string _)].toArray 9 (0, 0))]] rfl ?_; refine s_ret ?_; exact ⟨_, [], resv2 rfl (RV.cells rfl Try.isAgg105 Try.sizeOf105 rfl rfl (cels_own 0 rfl rfl)) (RV.tmp rfl), ⟨by unfold ofR; rw [if_neg (show ¬ (ckErr ks ≠ 0) from fun hh => hh c0)]; rw [if_neg (show ¬ (locate ks (⟨#[112, 108, 97, 99, 101]⟩ : ByteArray) [(⟨#[120]⟩ : ByteArray), (⟨#[121]⟩ : ByteArray), (⟨#[97, 110, 103]⟩ : ByteArray)]).2 = false from by rw [← f0, if8 q0]; decide)]; rw [if_neg (show ¬ (locate ks (⟨#[109, 111, 116, 105, 111, 110]⟩ : ByteArray) [(⟨#[118, 120]⟩ : ByteArray), (⟨#[118, 121]⟩ : ByteArray), (⟨#[115, 112, 105, 110]⟩ : ByteArray), (⟨#[99, 97, 108, 109]⟩ : ByteArray)]).2 = false from by rw [← f1, if8 q1]; decide)]; rw [if_neg (show ¬ (locate ks (⟨#[115, 104, 97, 112, 101]⟩ : ByteArray) [(⟨#[119]⟩ : ByteArray), (⟨#[104]⟩ : ByteArray), (⟨#[109, 97, 115, 115]⟩ : ByteArray), (⟨#[98, 111, 117, 110, 99, 101]⟩ : ByteArray), (⟨#[114, 117, 98]⟩ : ByteArray)]).2 = false from by rw [← f2, if8 q2]; decide)]; rw [← e0, ← e1, ← e2]; rfl, rfl⟩, sub_picks [] rfl⟩

theorem mapFault_k0 (w : World) : (Instr.build 105 ([] : List (Nat × Value)).toArray).run Try.prog w = .ok (.agg #[.int .i64 0, .int .i64 0, .int .i64 0]) w := by kernel_rfl
theorem mapFault_k1 (v0 : Int) (v1 : Int) (v2 : Int) (w : World) : (Instr.build 105 ([(0, .int .i64 v0), (1, .int .i64 v1), (2, .int .i64 v2)] : List (Nat × Value)).toArray).run Try.prog w = .ok (.agg #[.int .i64 v0, .int .i64 v1, .int .i64 v2]) w := by kernel_rfl
theorem mapFault_c {V : Mem} (A : Option Addr) (n c : Nat) (ks : List KR) (h : Cels V [] A (ks.flatMap encK)) (hn : ks.length = n) (hc : n ≤ c) (hb : n ≤ 140737488355328) (hK : ∀ k ∈ ks, KOK V k) : CallS Try.prog 46 [.slice A n c].toArray V [] (fun r L' => r = .tuple #[agM (ofR ks).1, .int .i64 (ofR ks).2] ∧ L' = []) := by
 refine callS Try.func46 rfl rfl (fun w0 => ?_); refine s_seq (s_region ?_); refine o_alloc rfl Try.zeroValue105 rfl (fun b1 => ?_); refine ov (y_assign (v := .int _ _) rfl) (o_nil ?_); refine s_seq ?_; refine s_seq (s_region ?_); refine ov (y_move (v := .slice _ _ _) rfl) ?_; refine o_fn 0 (d := 8) rfl Try.call97 (CheckK_c _ _ _ ks h.here.down hn hc hb (fun k hk => (hK k hk).lift)) rfl ?_; rintro _ _ ⟨rfl, rfl⟩; refine ov (y_assign (v := .int _ _) rfl) (o_nil ?_); refine s_seq (s_region ?_); refine ov (y_move (v := .int _ _) rfl) ?_; refine ov (y_neq rfl rfl) (o_nil ?_); refine s_if rfl (fun h2 => ?_) (fun h3 => ?_)
 ·have c0 := h2; refine s_seq (s_region ?_); refine ov (y_build (vs := []) rfl (mapFault_k0)) ?_; refine ov (y_move (v := .int _ _) rfl) ?_; refine o_stores (vs := [(.int _ _), (.int _ _), (.int _ _)]) 0 rfl Try.sizeOf105 rfl rfl rfl (by simp [Value.oneCell']) (by simp) ?_; refine ov (y_assign (v := .int _ _) rfl) (o_nil ?_); refine s_ret ?_; exact ⟨_, [], resv2 rfl (RV.cells rfl Try.isAgg105 Try.sizeOf105 rfl rfl (cels_own 0 rfl rfl)) (RV.tmp rfl), ⟨by unfold ofR; rw [if_pos (show ckErr ks ≠ 0 from c0)]; rfl, rfl⟩, sub_picks [] rfl⟩
 ·have c0 := Decidable.not_not.1 h3; refine s_skip ?_; refine s_seq (s_region ?_); refine ov (y_move (v := .slice _ _ _) rfl) ?_; refine o_fn 0 (d := 15) rfl Try.call58 (Special_c _ _ _ ks h.here.down hn hc hb (fun k hk => (hK k hk).lift)) rfl ?_; rintro _ _ ⟨k0, k1, k2, k3, k4, o0, o1, o2, o3, o4, rfl, hs0, hs1, hs2, hs3, hs4, rfl⟩; refine ov (y_move (v := (.tuple #[(.agg #[(.int _ _), (.int _ _), (.int _ _), (.int _ _), (.int _ _)]), (.agg #[(.bool _), (.bool _), (.bool _), (.bool _), (.bool _)])])) rfl) ?_; refine ov (y_extract (v := (.agg #[(.int _ _), (.int _ _), (.int _ _), (.int _ _), (.int _ _)])) rfl rfl) ?_; refine ov (y_extract (v := (.agg #[(.bool _), (.bool _), (.bool _), (.bool _), (.bool _)])) rfl rfl) ?_; refine o_alloc rfl Try.zeroValue130 rfl (fun b4 => ?_); refine o_alloc rfl Try.zeroValue131 rfl (fun b5 => ?_); refine o_stores (vs := [(.int _ _), (.int _ _), (.int _ _), (.int _ _), (.int _ _)]) 1 rfl Try.sizeOf130 rfl rfl rfl (by simp [Value.oneCell']) (by simp) ?_; refine o_stores (vs := [(.bool _), (.bool _), (.bool _), (.bool _), (.bool _)]) 2 rfl Try.sizeOf131 rfl rfl rfl (by simp [Value.oneCell']) (by simp) (o_nil ?_); refine s_norm [[(_, .cells [(.int _ _), (.int _ _), (.int _ _)].toArray 105 (0, 0))], [(_, .cells [(.int _ _), (.int _ _), (.int _ _), (.int _ _), (.int _ _)].toArray 130 (0, 0))], [(_, .cells [(.bool _), (.bool _), (.bool _), (.bool _), (.bool _)].toArray 131 (0, 0))]] rfl ?_; refine s_seq ?_; refine s_seq (s_region ?_); refine ov (y_index_lit (q := 0) Try.runUnderlying131 Try.sizeOf4 rfl rfl rfl rfl) ?_; refine o_splitb rfl rfl rfl (y_load Try.isAgg4 rfl (cel_own 2 rfl rfl)) (fun p6 => ?_) (fun p7 => ?_)
  ·refine ov (y_notb rfl) ?_; refine ov (y_move (v := .bool _) rfl) ?_; refine o_guard_yes rfl rfl ?_; refine ov (y_index_lit (q := 1) Try.runUnderlying131 Try.sizeOf4 rfl rfl rfl rfl) ?_; refine o_guard_yes rfl rfl ?_; refine o_splitb rfl rfl rfl (y_load Try.isAgg4 rfl (cel_own 2 rfl rfl)) (fun p8 => ?_) (fun p9 => ?_)
   ·refine o_guard_yes rfl rfl ?_; refine ov (y_notb rfl) ?_; refine ov (y_pick_f (v := .bool _) rfl rfl) ?_; refine ov (y_move (v := .bool _) rfl) ?_; refine o_guard_yes rfl rfl ?_; refine ov (y_index_lit (q := 2) Try.runUnderlying131 Try.sizeOf4 rfl rfl rfl rfl) ?_; refine o_guard_yes rfl rfl ?_; refine o_splitb rfl rfl rfl (y_load Try.isAgg4 rfl (cel_own 2 rfl rfl)) (fun p10 => ?_) (fun p11 => ?_)
    ·refine o_guard_yes rfl rfl ?_; refine ov (y_notb rfl) ?_; refine ov (y_pick_f (v := .bool _) rfl rfl) (o_nil ?_); refine s_forget [(2, .pointer _), (3, .int _ _), (5, .pointer _), (30, .bool _)] ⟨rfl, rfl, rfl, rfl, trivial⟩ (fun _f => ?_); refine s_else rfl ?_; refine s_skip ?_; refine s_seq (s_region ?_); refine ov (y_index_lit (q := 0) Try.runUnderlying130 Try.sizeOf3 rfl rfl rfl rfl) ?_; refine ov (y_load Try.isAgg3 rfl (cel_own 1 rfl rfl)) ?_; refine ov (y_index_lit (q := 1) Try.runUnderlying130 Try.sizeOf3 rfl rfl rfl rfl) ?_; refine ov (y_load Try.isAgg3 rfl (cel_own 1 rfl rfl)) ?_; refine ov (y_index_lit (q := 2) Try.runUnderlying130 Try.sizeOf3 rfl rfl rfl rfl) ?_; refine ov (y_load Try.isAgg3 rfl (cel_own 1 rfl rfl)) ?_; refine ov (y_build (vs := [(0, .int _ _), (1, .int _ _), (2, .int _ _)]) rfl (mapFault_k1 _ _ _)) ?_; refine o_stores (vs := [(.int _ _), (.int _ _), (.int _ _)]) 0 rfl Try.sizeOf105 rfl rfl rfl (by simp [Value.oneCell']) (by simp) ?_; refine ov (y_assign (v := .int _ _) rfl) (o_nil ?_); refine s_ret ?_; exact ⟨_, [], resv2 rfl (RV.cells rfl Try.isAgg105 Try.sizeOf105 rfl rfl (cels_own 0 rfl rfl)) (RV.tmp rfl), ⟨by unfold ofR; rw [if_neg (show ¬ (ckErr ks ≠ 0) from fun hh => hh c0)]; rw [if_neg (show ¬ (locate ks (⟨#[112, 108, 97, 99, 101]⟩ : ByteArray) [(⟨#[120]⟩ : ByteArray), (⟨#[121]⟩ : ByteArray), (⟨#[97, 110, 103]⟩ : ByteArray)]).2 = false from by rw [← hs0.eq.1]; cases o0 <;> simp_all)]; rw [if_neg (show ¬ (locate ks (⟨#[109, 111, 116, 105, 111, 110]⟩ : ByteArray) [(⟨#[118, 120]⟩ : ByteArray), (⟨#[118, 121]⟩ : ByteArray), (⟨#[115, 112, 105, 110]⟩ : ByteArray), (⟨#[99, 97, 108, 109]⟩ : ByteArray)]).2 = false from by rw [← hs1.eq.1]; cases o1 <;> simp_all)]; rw [if_neg (show ¬ (locate ks (⟨#[115, 104, 97, 112, 101]⟩ : ByteArray) [(⟨#[119]⟩ : ByteArray), (⟨#[104]⟩ : ByteArray), (⟨#[109, 97, 115, 115]⟩ : ByteArray), (⟨#[98, 111, 117, 110, 99, 101]⟩ : ByteArray), (⟨#[114, 117, 98]⟩ : ByteArray)]).2 = false from by rw [← hs2.eq.1]; cases o2 <;> simp_all)]; rw [← hs0.eq.2 (by cases o0 <;> simp_all), ← hs1.eq.2 (by cases o1 <;> simp_all), ← hs2.eq.2 (by cases o2 <;> simp_all)]; rfl, rfl⟩, sub_picks [] rfl⟩
    ·refine o_guard_yes rfl rfl ?_; refine ov (y_notb rfl) ?_; refine ov (y_pick_f (v := .bool _) rfl rfl) (o_nil ?_); refine s_forget [(2, .pointer _), (3, .int _ _), (5, .pointer _), (30, .bool _)] ⟨rfl, rfl, rfl, rfl, trivial⟩ (fun _f => ?_); refine s_then rfl ?_; refine s_seq (s_region ?_); refine ov (y_build (vs := []) rfl (mapFault_k0)) ?_; refine o_stores (vs := [(.int _ _), (.int _ _), (.int _ _)]) 0 rfl Try.sizeOf105 rfl rfl rfl (by simp [Value.oneCell']) (by simp) ?_; refine ov (y_assign (v := .int _ _) rfl) (o_nil ?_); refine s_ret ?_; exact ⟨_, [], resv2 rfl (RV.cells rfl Try.isAgg105 Try.sizeOf105 rfl rfl (cels_own 0 rfl rfl)) (RV.tmp rfl), ⟨by unfold ofR; rw [if_neg (show ¬ (ckErr ks ≠ 0) from fun hh => hh c0)]; rw [if_neg (show ¬ (locate ks (⟨#[112, 108, 97, 99, 101]⟩ : ByteArray) [(⟨#[120]⟩ : ByteArray), (⟨#[121]⟩ : ByteArray), (⟨#[97, 110, 103]⟩ : ByteArray)]).2 = false from by rw [← hs0.eq.1]; cases o0 <;> simp_all)]; rw [if_neg (show ¬ (locate ks (⟨#[109, 111, 116, 105, 111, 110]⟩ : ByteArray) [(⟨#[118, 120]⟩ : ByteArray), (⟨#[118, 121]⟩ : ByteArray), (⟨#[115, 112, 105, 110]⟩ : ByteArray), (⟨#[99, 97, 108, 109]⟩ : ByteArray)]).2 = false from by rw [← hs1.eq.1]; cases o1 <;> simp_all)]; rw [if_pos (show (locate ks (⟨#[115, 104, 97, 112, 101]⟩ : ByteArray) [(⟨#[119]⟩ : ByteArray), (⟨#[104]⟩ : ByteArray), (⟨#[109, 97, 115, 115]⟩ : ByteArray), (⟨#[98, 111, 117, 110, 99, 101]⟩ : ByteArray), (⟨#[114, 117, 98]⟩ : ByteArray)]).2 = false from by rw [← hs2.eq.1]; cases o2 <;> simp_all)]; rfl, rfl⟩, sub_picks [] rfl⟩
   ·refine o_guard_yes rfl rfl ?_; refine ov (y_notb rfl) ?_; refine ov (y_pick_f (v := .bool _) rfl rfl) ?_; refine ov (y_move (v := .bool _) rfl) ?_; refine o_guard_no rfl rfl rfl rfl rfl ?_; refine o_guard_no rfl rfl rfl rfl rfl ?_; refine o_guard_no rfl rfl rfl rfl rfl ?_; refine ov (y_pick_t (v := .bool _) rfl rfl) (o_nil ?_); refine s_forget [(2, .pointer _), (3, .int _ _), (5, .pointer _), (30, .bool _)] ⟨rfl, rfl, rfl, rfl, trivial⟩ (fun _f => ?_); refine s_then rfl ?_; refine s_seq (s_region ?_); refine ov (y_build (vs := []) rfl (mapFault_k0)) ?_; refine o_stores (vs := [(.int _ _), (.int _ _), (.int _ _)]) 0 rfl Try.sizeOf105 rfl rfl rfl (by simp [Value.oneCell']) (by simp) ?_; refine ov (y_assign (v := .int _ _) rfl) (o_nil ?_); refine s_ret ?_; exact ⟨_, [], resv2 rfl (RV.cells rfl Try.isAgg105 Try.sizeOf105 rfl rfl (cels_own 0 rfl rfl)) (RV.tmp rfl), ⟨by unfold ofR; rw [if_neg (show ¬ (ckErr ks ≠ 0) from fun hh => hh c0)]; rw [if_neg (show ¬ (locate ks (⟨#[112, 108, 97, 99, 101]⟩ : ByteArray) [(⟨#[120]⟩ : ByteArray), (⟨#[121]⟩ : ByteArray), (⟨#[97, 110, 103]⟩ : ByteArray)]).2 = false from by rw [← hs0.eq.1]; cases o0 <;> simp_all)]; rw [if_pos (show (locate ks (⟨#[109, 111, 116, 105, 111, 110]⟩ : ByteArray) [(⟨#[118, 120]⟩ : ByteArray), (⟨#[118, 121]⟩ : ByteArray), (⟨#[115, 112, 105, 110]⟩ : ByteArray), (⟨#[99, 97, 108, 109]⟩ : ByteArray)]).2 = false from by rw [← hs1.eq.1]; cases o1 <;> simp_all)]; rfl, rfl⟩, sub_picks [] rfl⟩
  ·refine ov (y_notb rfl) ?_; refine ov (y_move (v := .bool _) rfl) ?_; refine o_guard_no rfl rfl rfl rfl rfl ?_; refine o_guard_no rfl rfl rfl rfl rfl ?_; refine o_guard_no rfl rfl rfl rfl rfl ?_; refine ov (y_pick_t (v := .bool _) rfl rfl) ?_; refine ov (y_move (v := .bool _) rfl) ?_; refine o_guard_no rfl rfl rfl rfl rfl ?_; refine o_guard_no rfl rfl rfl rfl rfl ?_; refine o_guard_no rfl rfl rfl rfl rfl ?_; refine ov (y_pick_t (v := .bool _) rfl rfl) (o_nil ?_); refine s_forget [(2, .pointer _), (3, .int _ _), (5, .pointer _), (30, .bool _)] ⟨rfl, rfl, rfl, rfl, trivial⟩ (fun _f => ?_); refine s_then rfl ?_; refine s_seq (s_region ?_); refine ov (y_build (vs := []) rfl (mapFault_k0)) ?_; refine o_stores (vs := [(.int _ _), (.int _ _), (.int _ _)]) 0 rfl Try.sizeOf105 rfl rfl rfl (by simp [Value.oneCell']) (by simp) ?_; refine ov (y_assign (v := .int _ _) rfl) (o_nil ?_); refine s_ret ?_; exact ⟨_, [], resv2 rfl (RV.cells rfl Try.isAgg105 Try.sizeOf105 rfl rfl (cels_own 0 rfl rfl)) (RV.tmp rfl), ⟨by unfold ofR; rw [if_neg (show ¬ (ckErr ks ≠ 0) from fun hh => hh c0)]; rw [if_pos (show (locate ks (⟨#[112, 108, 97, 99, 101]⟩ : ByteArray) [(⟨#[120]⟩ : ByteArray), (⟨#[121]⟩ : ByteArray), (⟨#[97, 110, 103]⟩ : ByteArray)]).2 = false from by rw [← hs0.eq.1]; cases o0 <;> simp_all)]; rfl, rfl⟩, sub_picks [] rfl⟩

end Go.Proofs.Ytacmbiohjiogiaa.K
end
