/- Walks over the package merge: components merged. No condition beyond what each statement names. -/
import Derived.Test.YtacmbiohjiogiaaProg
import Derived.Test.YtacmbiohjiogiaaK17
import Derived.Test.YtacmbiohjiogiaaM1
import Derived.Test.YtacmbiohjiogiaaW1
import Derived.Test.YtacmbiohjiogiaaW2
import Derived.Test.YtacmbiohjiogiaaW3
import Derived.Test.YtacmbiohjiogiaaW4
import Derived.Test.YtacmbiohjiogiaaX1
import Derived.Test.YtacmbiohjiogiaaX2
set_option linter.unusedVariables false
set_option linter.unusedSimpArgs false
set_option maxRecDepth 100000
namespace Go.Proofs.Ytacmbiohjiogiaa.K
open Go.RowKit

/-- What lies here or there. -/
def orM (V W : Mem) : Mem := fun b o => V b o ∨ W b o
theorem orM_left {V W : Mem} : MSub V (orM V W) := fun _ _ h => .inl h
theorem orM_right {V W : Mem} : MSub W (orM V W) := fun _ _ h => .inr h
theorem orM_ext {V : Mem} {L : List Grp} {G : Grp} {j : Nat} (hj : nth L j = some G) : MSub (orM V (inG G)) (ext V L) := fun b o h => h.elim (fun h => .inl h) (fun h => inG_ext hj b o h)
/-- One component merged: its values, if it stays, and the clashes. -/
def pickC (slot k : Int) (o x y : Option (List Int)) : Option (List Int) × List KL :=
  if o.isSome = true ∧ x.isSome = true ∧ y.isSome = true then (some (valsOut (o.getD []) (x.getD []) (y.getD [])), valsCl slot k (o.getD []) (x.getD []) (y.getD []) (x.getD []).length)
  else if x = y then (x, []) else if x = o then (y, []) else if y = o then (x, []) else (x, [⟨1, slot, k, 0⟩])
def fc (cs : List CR) (k : Int) : Option (List Int) := (findC cs k).map CR.vs
def compsOut (slot : Int) (o x y : List CR) : Nat → List (Int × List Int)
  | 0 => []
  | i + 1 => compsOut slot o x y i ++ (pickC slot ((i : Nat) : Int) (fc o ((i : Nat) : Int)) (fc x ((i : Nat) : Int)) (fc y ((i : Nat) : Int))).1.toList.map fun v => (((i : Nat) : Int), v)
def compsCl (slot : Int) (o x y : List CR) : Nat → List KL
  | 0 => []
  | i + 1 => compsCl slot o x y i ++ (pickC slot ((i : Nat) : Int) (fc o ((i : Nat) : Int)) (fc x ((i : Nat) : Int)) (fc y ((i : Nat) : Int))).2
/-- Values that are there in all three versions are as many. -/
def sameLen (o x y : List CR) : Prop := ∀ (k : Int) (a b c : CR), findC o k = some a → findC x k = some b → findC y k = some c → a.vs.length = b.vs.length ∧ c.vs.length = b.vs.length ∧ b.vs.length ≤ 16
structure LX3 where
  i : Nat
  cs : List CR
  iA : Option Addr
  iC : Nat
  iE : Grp
  P : Grp
  kl : List KL
  A : Option Addr
  C : Nat
  cE : Grp
structure LY3 where
  keep : Bool
  A' : Option Addr
  n' : Nat
  c' : Nat
  vs : List Int
  G : Grp
  kl : List KL
  A : Option Addr
  C : Nat
  cE : Grp
theorem pick_some {s k : Int} {a b c : List Int} : pickC s k (some a) (some b) (some c) = (some (valsOut a b c), valsCl s k a b c b.length) := rfl

theorem CompsM_k0 (v0x0 : Int) (v0x1 : Int) (w : World) : (Instr.build 136 ([(0, (.agg #[(.int .i64 v0x0), (.int .i64 v0x1)]))] : List (Nat × Value)).toArray).run Try.prog w = .ok (.agg #[.int .i64 v0x0, .int .i64 v0x1, .slice none 0 0]) w := by kernel_rfl
theorem CompsM_k1 (v0 : Int) (v1 : Int) (v2 : Int) (v3 : Int) (w : World) : (Instr.build 68 ([(0, (.int .i64 v0)), (1, (.int .i64 v1)), (2, (.int .i64 v2)), (3, (.int .i64 v3))] : List (Nat × Value)).toArray).run Try.prog w = .ok (.agg #[.int .i64 v0, .int .i64 v1, .int .i64 v2, .int .i64 v3]) w := by kernel_rfl
theorem CompsM_k2 (v0x0 : Int) (v0x1 : Int) (v0x2 : Int) (v0x3 : Int) (w : World) : (Instr.buildSlice 50 1 ([(0, (.agg #[(.int .i64 v0x0), (.int .i64 v0x1), (.int .i64 v0x2), (.int .i64 v0x3)]))] : List (Nat × Value)).toArray).run Try.prog w = .ok (.slice (some ⟨w.heap.size, 0, none⟩) 1 1) { w with heap := w.heap.push (.cells ([.int .i64 v0x0, .int .i64 v0x1, .int .i64 v0x2, .int .i64 v0x3] : List Value).toArray 68 (0, 0)) } := by kernel_rfl
theorem CompsM_k3 (v0 : Int) (v1A : Option Addr) (v1n : Nat) (v1c : Nat) (w : World) : (Instr.build 155 ([(0, (.int .i64 v0)), (1, (.slice v1A v1n v1c))] : List (Nat × Value)).toArray).run Try.prog w = .ok (.agg #[.int .i64 v0, .slice v1A v1n v1c]) w := by kernel_rfl
theorem CompsM_k4 (v0x0 : Int) (v0x1A : Option Addr) (v0x1n : Nat) (v0x1c : Nat) (w : World) : (Instr.buildSlice 33 1 ([(0, (.agg #[(.int .i64 v0x0), (.slice v0x1A v0x1n v0x1c)]))] : List (Nat × Value)).toArray).run Try.prog w = .ok (.slice (some ⟨w.heap.size, 0, none⟩) 1 1) { w with heap := w.heap.push (.cells ([.int .i64 v0x0, .slice v0x1A v0x1n v0x1c] : List Value).toArray 155 (0, 0)) } := by kernel_rfl
theorem CompsM_c {V : Mem} (mb : Nat) (cA : Option Addr) (cc : Nat) (cE : Grp) (kl : List KL) (hcl : OS cA kl.length cc 68 4 ((kl).flatMap encKL) cE) (K : Nat) (o x y : IR) (ho : IOK V o) (hx : IOK V x) (hy : IOK V y) (hsl : sameLen o.cs x.cs y.cs) (hK : K ≤ 100) (hb : kl.length ≤ 900000) : CallS Try.prog 154 [.pointer (some ⟨mb, 0, none⟩), .int .i64 K, .agg #[.int .i64 o.e, .int .i64 o.g, .slice o.A o.n o.c], .agg #[.int .i64 x.e, .int .i64 x.g, .slice x.A x.n x.c], .agg #[.int .i64 y.e, .int .i64 y.g, .slice y.A y.n y.c]].toArray V [[(mb, .cells [.slice cA kl.length cc].toArray 184 (0, 0))], cE] (fun r L' => ∃ (i' : IR) (A' : Option Addr) (C' : Nat) (E' iE P : Grp), r = .agg #[.int .i64 i'.e, .int .i64 i'.g, .slice i'.A i'.n i'.c] ∧ i'.e = x.e ∧ i'.g = x.g ∧ OS i'.A i'.n i'.c 155 2 ((i'.cs).flatMap encC) iE ∧ i'.n ≤ K ∧ (∀ c ∈ i'.cs, COK (inG P) c) ∧ i'.cs.map CR.d = compsOut x.e o.cs x.cs y.cs K ∧ OS A' (kl ++ compsCl x.e o.cs x.cs y.cs K).length C' 68 4 ((kl ++ compsCl x.e o.cs x.cs y.cs K).flatMap encKL) E' ∧ L' = [[(mb, .cells [.slice A' (kl ++ compsCl x.e o.cs x.cs y.cs K).length C'].toArray 184 (0, 0))], E', iE, P]) := by
  refine callS Try.func154 rfl rfl (fun w0 => ?_)
  refine s_seq ?_
  refine s_region ?_
  refine o_box (v := (.agg #[(.int _ _), (.int _ _), (.slice _ _ _)])) rfl rfl rfl (fun b1 => ?_)
  refine o_box (v := (.agg #[(.int _ _), (.int _ _), (.slice _ _ _)])) rfl rfl rfl (fun b2 => ?_)
  refine o_box (v := (.agg #[(.int _ _), (.int _ _), (.slice _ _ _)])) rfl rfl rfl (fun b3 => ?_)
  refine o_alloc rfl Try.zeroValue136 rfl (fun b4 => ?_)
  refine o_nil ?_
  refine s_seq ?_
  refine s_region ?_
  refine o_val rfl rfl rfl (y_field0 Try.runUnderlying136 rfl Try.sizeOf117 rfl rfl) ?_
  refine o_val rfl rfl rfl (y_loads (cs := [_, _]) Try.isAgg117 Try.sizeOf117 rfl rfl rfl (cels_own 3 rfl rfl)) ?_
  refine o_val rfl rfl rfl (y_build (vs := [(0, .agg #[.int _ _, .int _ _])]) rfl (CompsM_k0 _ _)) ?_
  refine o_alloc rfl Try.zeroValue136 rfl (fun b5 => ?_)
  refine o_stores (vs := [(.int _ _), (.int _ _), (.slice _ _ _)]) 6 rfl Try.sizeOf136 rfl rfl rfl (by simp [Value.oneCell']) (by simp) ?_
  refine o_nil ?_
  refine s_seq ?_
  refine s_seq ?_
  refine s_region ?_
  refine o_val rfl rfl rfl (y_move (v := (.int _ _)) rfl) ?_
  refine o_val rfl rfl rfl (y_move (v := (.int _ _)) rfl) ?_
  refine o_nil ?_
  refine s_forget [(0, (.pointer _)), (7, (.pointer _)), (8, (.pointer _)), (9, (.pointer _)), (10, (.pointer _)), (11, (.pointer _)), (24, (.int _ _)), (25, (.int _ _))] ⟨rfl, rfl, rfl, rfl, rfl, rfl, rfl, rfl, trivial⟩ (fun _f => ?_)
  refine s_block ?_
  refine s_group ?_
  refine s_group ?_
  refine s_loopK (γ := LX3) [(0, (.pointer _)), (7, (.pointer _)), (8, (.pointer _)), (9, (.pointer _)), (10, (.pointer _)), (11, (.pointer _)), (24, (.int _ _))] [_, _, _, _] (fun g => [(25, .int .i64 g.i)]) (fun g => [[(b5, .cells [.int .i64 x.e, .int .i64 x.g, .slice g.iA g.cs.length g.iC].toArray 136 (0, 0))], g.iE, g.P, [(mb, .cells [.slice g.A g.kl.length g.C].toArray 184 (0, 0))], g.cE]) (fun g => g.i ≤ K ∧ OS g.iA g.cs.length g.iC 155 2 ((g.cs).flatMap encC) g.iE ∧ (∀ c ∈ g.cs, COK (inG g.P) c) ∧ g.cs.map CR.d = compsOut x.e o.cs x.cs y.cs g.i ∧ OS g.A g.kl.length g.C 68 4 ((g.kl).flatMap encKL) g.cE ∧ g.kl = kl ++ compsCl x.e o.cs x.cs y.cs g.i ∧ g.kl.length ≤ kl.length + 17 * g.i ∧ g.cs.length ≤ g.i) (fun g => K - g.i) (LX3.mk 0 [] none 0 [] [] kl cA cc cE) ⟨rfl, rfl, rfl, rfl, rfl, rfl, rfl, rfl, trivial⟩ (sub_picks [6, 6, 6, 0, 0, 0, 0, 0, 0] rfl) ?_ ?_
  · exact ⟨Nat.zero_le _, OS.nil _ _, fun c hc => absurd hc List.not_mem_nil, rfl, hcl, (List.append_nil _).symm, Nat.le_refl _, Nat.le_refl _⟩
  intro g _f hI
  refine s_norm _ (by simp only [pull, picks, setG, List.cons_append, List.nil_append, List.append_nil, List.drop_succ_cons, List.drop_zero]; rfl) ?_
  obtain ⟨hgi, hio, hic, hid, hko, hkd, hkn, hin⟩ := hI
  refine s_seq ?_
  refine s_region ?_
  refine o_val rfl rfl rfl (y_lss rfl rfl) ?_
  refine o_nil ?_
  refine s_seq ?_
  refine s_if rfl (fun h6 => ?_) (fun h7 => ?_)
  · refine s_skip ?_
    refine s_seq ?_
    refine s_block ?_
    refine s_seq ?_
    refine s_region ?_
    refine o_val rfl rfl rfl (y_move (v := (.int _ _)) rfl) ?_
    refine o_val rfl rfl rfl (y_assign (v := (.int _ _)) rfl) ?_
    refine o_nil ?_
    refine s_seq ?_
    refine s_region ?_
    refine o_val rfl rfl rfl (y_loads (cs := [_, _, _]) Try.isAgg136 Try.sizeOf136 rfl rfl rfl (cels_own 5 rfl rfl)) ?_
    refine o_val rfl rfl rfl (y_move (v := (.int _ _)) rfl) ?_
    refine o_fn 0 (d := 31) rfl Try.call198 (CompM_c o (IOK.sub ho MSub.ext) ((g.i : Nat) : Int)) rfl ?_
    rintro _ _ ⟨rfl, rfl⟩
    refine o_val rfl rfl rfl (y_move (v := (.tuple #[(.slice _ _ _), (.bool _)])) rfl) ?_
    refine o_val rfl rfl rfl (y_extract (v := (.slice _ _ _)) rfl rfl) ?_
    refine o_val rfl rfl rfl (y_extract (v := (.bool _)) rfl rfl) ?_
    refine o_val rfl rfl rfl (y_assign (v := (.slice _ _ _)) rfl) ?_
    refine o_val rfl rfl rfl (y_assign (v := (.bool _)) rfl) ?_
    refine o_nil ?_
    refine s_forget [(0, (.pointer _)), (7, (.pointer _)), (8, (.pointer _)), (9, (.pointer _)), (10, (.pointer _)), (11, (.pointer _)), (12, (.int _ _)), (13, (.slice _ _ _)), (14, (.bool _)), (24, (.int _ _)), (25, (.int _ _))] ⟨rfl, rfl, rfl, rfl, rfl, rfl, rfl, rfl, rfl, rfl, rfl, trivial⟩ (fun _f => ?_)
    refine s_seq ?_
    refine s_region ?_
    refine o_val rfl rfl rfl (y_loads (cs := [_, _, _]) Try.isAgg136 Try.sizeOf136 rfl rfl rfl (cels_own 6 rfl rfl)) ?_
    refine o_val rfl rfl rfl (y_move (v := (.int _ _)) rfl) ?_
    refine o_fn 0 (d := 37) rfl Try.call198 (CompM_c x (IOK.sub hx MSub.ext) ((g.i : Nat) : Int)) rfl ?_
    rintro _ _ ⟨rfl, rfl⟩
    refine o_val rfl rfl rfl (y_move (v := (.tuple #[(.slice _ _ _), (.bool _)])) rfl) ?_
    refine o_val rfl rfl rfl (y_extract (v := (.slice _ _ _)) rfl rfl) ?_
    refine o_val rfl rfl rfl (y_extract (v := (.bool _)) rfl rfl) ?_
    refine o_val rfl rfl rfl (y_assign (v := (.slice _ _ _)) rfl) ?_
    refine o_val rfl rfl rfl (y_assign (v := (.bool _)) rfl) ?_
    refine o_nil ?_
    refine s_seq ?_
    refine s_region ?_
    refine o_val rfl rfl rfl (y_loads (cs := [_, _, _]) Try.isAgg136 Try.sizeOf136 rfl rfl rfl (cels_own 7 rfl rfl)) ?_
    refine o_val rfl rfl rfl (y_move (v := (.int _ _)) rfl) ?_
    refine o_fn 0 (d := 43) rfl Try.call198 (CompM_c y (IOK.sub hy MSub.ext) ((g.i : Nat) : Int)) rfl ?_
    rintro _ _ ⟨rfl, rfl⟩
    refine o_val rfl rfl rfl (y_move (v := (.tuple #[(.slice _ _ _), (.bool _)])) rfl) ?_
    refine o_val rfl rfl rfl (y_extract (v := (.slice _ _ _)) rfl rfl) ?_
    refine o_val rfl rfl rfl (y_extract (v := (.bool _)) rfl rfl) ?_
    refine o_val rfl rfl rfl (y_assign (v := (.slice _ _ _)) rfl) ?_
    refine o_val rfl rfl rfl (y_assign (v := (.bool _)) rfl) ?_
    refine o_nil ?_
    refine s_forget [(0, (.pointer _)), (7, (.pointer _)), (8, (.pointer _)), (9, (.pointer _)), (10, (.pointer _)), (11, (.pointer _)), (12, (.int _ _)), (13, (.slice _ _ _)), (14, (.bool _)), (15, (.slice _ _ _)), (16, (.bool _)), (17, (.slice _ _ _)), (18, (.bool _)), (24, (.int _ _)), (25, (.int _ _))] ⟨rfl, rfl, rfl, rfl, rfl, rfl, rfl, rfl, rfl, rfl, rfl, rfl, rfl, rfl, rfl, trivial⟩ (fun _f => ?_)
    refine s_seq ?_
    refine s_region ?_
    refine o_newgroup ?_
    refine o_val rfl rfl rfl (y_move (v := (.bool _)) rfl) ?_
    refine o_val rfl rfl rfl (y_move (v := (.slice _ _ _)) rfl) ?_
    refine o_val rfl rfl rfl (y_assign (v := (.bool _)) rfl) ?_
    refine o_val rfl rfl rfl (y_assign (v := (.slice _ _ _)) rfl) ?_
    refine o_nil ?_
    refine s_joinK (γ := LY3) [(0, (.pointer _)), (7, (.pointer _)), (8, (.pointer _)), (9, (.pointer _)), (10, (.pointer _)), (11, (.pointer _)), (12, (.int _ _)), (24, (.int _ _)), (25, (.int _ _))] [_, _, _, _, _, _, _] (fun u => [(19, .bool u.keep), (20, .slice u.A' u.n' u.c')]) (fun u => [u.G, [(mb, .cells [.slice u.A u.kl.length u.C].toArray 184 (0, 0))], u.cE]) (fun u => Cels (orM V (inG u.G)) [] u.A' (u.vs.map (.int .i64)) ∧ u.vs.length = u.n' ∧ u.n' ≤ 17592186044416 ∧ (if u.keep then some u.vs else none) = (pickC x.e ((g.i : Nat) : Int) (fc o.cs ((g.i : Nat) : Int)) (fc x.cs ((g.i : Nat) : Int)) (fc y.cs ((g.i : Nat) : Int))).1 ∧ OS u.A u.kl.length u.C 68 4 ((u.kl).flatMap encKL) u.cE ∧ u.kl = g.kl ++ (pickC x.e ((g.i : Nat) : Int) (fc o.cs ((g.i : Nat) : Int)) (fc x.cs ((g.i : Nat) : Int)) (fc y.cs ((g.i : Nat) : Int))).2 ∧ u.kl.length ≤ g.kl.length + 17) ⟨rfl, rfl, rfl, rfl, rfl, rfl, rfl, rfl, rfl, trivial⟩ [0, 0, 0, 2, 2, 2, 2] rfl ?_ ?_
    · refine s_block ?_
      refine s_seq ?_
      refine s_region ?_
      have hO := findC_ok ho.2.2.2.2 ((g.i : Nat) : Int)
      have hX := findC_ok hx.2.2.2.2 ((g.i : Nat) : Int)
      have hY := findC_ok hy.2.2.2.2 ((g.i : Nat) : Int)
      rcases hfo : findC o.cs ((g.i : Nat) : Int) with _ | co <;> rcases hfx : findC x.cs ((g.i : Nat) : Int) with _ | cx <;> rcases hfy : findC y.cs ((g.i : Nat) : Int) with _ | cy <;> rw [hfo] at hO <;> rw [hfx] at hX <;> rw [hfy] at hY
      · refine o_val rfl rfl rfl (y_move (v := (.bool _)) rfl) ?_
        refine o_val rfl rfl rfl (y_move (v := (.bool _)) rfl) ?_
        refine o_guard_no rfl rfl rfl rfl rfl ?_
        refine o_val rfl rfl rfl (y_pick_f (v := (.bool _)) rfl rfl) ?_
        refine o_val rfl rfl rfl (y_move (v := (.bool _)) rfl) ?_
        refine o_guard_no rfl rfl rfl rfl rfl ?_
        refine o_val rfl rfl rfl (y_pick_f (v := (.bool _)) rfl rfl) ?_
        refine o_val rfl rfl rfl (y_assign (v := (.bool _)) rfl) ?_
        refine o_nil ?_
        refine s_else rfl ?_
        refine s_seq ?_
        refine s_region ?_
        refine o_val rfl rfl rfl (y_move (v := (.bool _)) rfl) ?_
        refine o_val rfl rfl rfl (y_move (v := (.bool _)) rfl) ?_
        refine o_val rfl rfl rfl (y_eql_bool Try.underlying4 rfl rfl) ?_
        refine o_val rfl rfl rfl (y_move (v := (.bool _)) rfl) ?_
        refine o_guard_yes rfl rfl ?_
        refine o_val rfl rfl rfl (y_move (v := (.slice _ _ _)) rfl) ?_
        refine o_guard_yes rfl rfl ?_
        refine o_val rfl rfl rfl (y_move (v := (.slice _ _ _)) rfl) ?_
        refine o_guard_yes rfl rfl ?_
        refine o_fn 0 (d := 86) rfl Try.call21 (EqualI_c _ _ _ _ hX.2.2.2.here.down hX.1 _ _ _ _ hY.2.2.2.here.down hY.1 (by have := hX.2.2.1; omega)) rfl ?_
        rintro _ _ ⟨rfl, rfl⟩
        refine o_val rfl rfl rfl (y_pick_t (v := (.bool _)) rfl rfl) ?_
        refine o_val rfl rfl rfl (y_assign (v := (.bool _)) rfl) ?_
        refine o_nil ?_
        refine s_forget [(0, (.pointer _)), (7, (.pointer _)), (8, (.pointer _)), (9, (.pointer _)), (10, (.pointer _)), (11, (.pointer _)), (12, (.int _ _)), (13, (.slice _ _ _)), (14, (.bool _)), (15, (.slice _ _ _)), (16, (.bool _)), (17, (.slice _ _ _)), (18, (.bool _)), (19, (.bool _)), (20, (.slice _ _ _)), (24, (.int _ _)), (25, (.int _ _)), (79, (.bool _))] ⟨rfl, rfl, rfl, rfl, rfl, rfl, rfl, rfl, rfl, rfl, rfl, rfl, rfl, rfl, rfl, rfl, rfl, rfl, trivial⟩ (fun _f => ?_)
        refine s_if rfl (fun h8 => ?_) (fun h9 => ?_)
        · have e1 := h8
          refine s_skip ?_
          have hpk : pickC x.e ((g.i : Nat) : Int) (fc o.cs ((g.i : Nat) : Int)) (fc x.cs ((g.i : Nat) : Int)) (fc y.cs ((g.i : Nat) : Int)) = (none, []) := by unfold fc pickC; rw [hfo, hfx, hfy]; first | (simp [e1]; done) | exact absurd rfl e1 | (simp only [Option.getD_some, Option.getD_none] at e1; simp [e1]; done)
          exact ⟨⟨false, (default : CR).A, (default : CR).n, (default : CR).c, (default : CR).vs, [], g.kl, g.A, g.C, g.cE⟩, ⟨hX.2.2.2.ms orM_left, hX.1, by have := hX.2.2.1; exact this, by rw [hpk]; rfl, hko, by rw [hpk]; exact (List.append_nil _).symm, by dsimp only; omega⟩, ⟨rfl, rfl, rfl, rfl, rfl, rfl, rfl, rfl, rfl, rfl, rfl, trivial⟩, (sub_picks [9, 3, 3, 0, 0, 0, 0, 0, 0, 0] rfl)⟩
        · have e1 := h9
          refine s_seq ?_
          refine s_region ?_
          refine o_val rfl rfl rfl (y_move (v := (.bool _)) rfl) ?_
          refine o_val rfl rfl rfl (y_move (v := (.bool _)) rfl) ?_
          refine o_val rfl rfl rfl (y_eql_bool Try.underlying4 rfl rfl) ?_
          refine o_val rfl rfl rfl (y_move (v := (.bool _)) rfl) ?_
          refine o_guard_yes rfl rfl ?_
          refine o_val rfl rfl rfl (y_move (v := (.slice _ _ _)) rfl) ?_
          refine o_guard_yes rfl rfl ?_
          refine o_val rfl rfl rfl (y_move (v := (.slice _ _ _)) rfl) ?_
          refine o_guard_yes rfl rfl ?_
          refine o_fn 0 (d := 95) rfl Try.call21 (EqualI_c _ _ _ _ hX.2.2.2.here.down hX.1 _ _ _ _ hO.2.2.2.here.down hO.1 (by have := hX.2.2.1; omega)) rfl ?_
          rintro _ _ ⟨rfl, rfl⟩
          refine o_val rfl rfl rfl (y_pick_t (v := (.bool _)) rfl rfl) ?_
          refine o_val rfl rfl rfl (y_assign (v := (.bool _)) rfl) ?_
          refine o_nil ?_
          refine s_if rfl (fun h10 => ?_) (fun h11 => ?_)
          · have e2 := h10
            refine s_region ?_
            refine o_val rfl rfl rfl (y_move (v := (.bool _)) rfl) ?_
            refine o_val rfl rfl rfl (y_move (v := (.slice _ _ _)) rfl) ?_
            refine o_val rfl rfl rfl (y_assign (v := (.bool _)) rfl) ?_
            refine o_val rfl rfl rfl (y_assign (v := (.slice _ _ _)) rfl) ?_
            refine o_nil ?_
            have hpk : pickC x.e ((g.i : Nat) : Int) (fc o.cs ((g.i : Nat) : Int)) (fc x.cs ((g.i : Nat) : Int)) (fc y.cs ((g.i : Nat) : Int)) = (none, []) := by unfold fc pickC; rw [hfo, hfx, hfy]; first | (simp [e1, e2]; done) | exact absurd rfl e1 | exact absurd rfl e2 | (simp only [Option.getD_some, Option.getD_none] at e1 e2; simp [e1, e2]; done)
            exact ⟨⟨false, (default : CR).A, (default : CR).n, (default : CR).c, (default : CR).vs, [], g.kl, g.A, g.C, g.cE⟩, ⟨hY.2.2.2.ms orM_left, hY.1, by have := hY.2.2.1; exact this, by rw [hpk]; rfl, hko, by rw [hpk]; exact (List.append_nil _).symm, by dsimp only; omega⟩, ⟨rfl, rfl, rfl, rfl, rfl, rfl, rfl, rfl, rfl, rfl, rfl, trivial⟩, (sub_picks [9, 3, 3, 0, 0, 0, 0, 0, 0, 0] rfl)⟩
          · have e2 := h11
            refine s_seq ?_
            refine s_region ?_
            refine o_val rfl rfl rfl (y_move (v := (.bool _)) rfl) ?_
            refine o_val rfl rfl rfl (y_move (v := (.bool _)) rfl) ?_
            refine o_val rfl rfl rfl (y_eql_bool Try.underlying4 rfl rfl) ?_
            refine o_val rfl rfl rfl (y_move (v := (.bool _)) rfl) ?_
            refine o_guard_yes rfl rfl ?_
            refine o_val rfl rfl rfl (y_move (v := (.slice _ _ _)) rfl) ?_
            refine o_guard_yes rfl rfl ?_
            refine o_val rfl rfl rfl (y_move (v := (.slice _ _ _)) rfl) ?_
            refine o_guard_yes rfl rfl ?_
            refine o_fn 0 (d := 106) rfl Try.call21 (EqualI_c _ _ _ _ hY.2.2.2.here.down hY.1 _ _ _ _ hO.2.2.2.here.down hO.1 (by have := hY.2.2.1; omega)) rfl ?_
            rintro _ _ ⟨rfl, rfl⟩
            refine o_val rfl rfl rfl (y_pick_t (v := (.bool _)) rfl rfl) ?_
            refine o_val rfl rfl rfl (y_assign (v := (.bool _)) rfl) ?_
            refine o_nil ?_
            refine s_forget [(0, (.pointer _)), (7, (.pointer _)), (8, (.pointer _)), (9, (.pointer _)), (10, (.pointer _)), (11, (.pointer _)), (12, (.int _ _)), (19, (.bool _)), (20, (.slice _ _ _)), (24, (.int _ _)), (25, (.int _ _)), (99, (.bool _))] ⟨rfl, rfl, rfl, rfl, rfl, rfl, rfl, rfl, rfl, rfl, rfl, rfl, trivial⟩ (fun _f => ?_)
            refine s_if rfl (fun h12 => ?_) (fun h13 => ?_)
            · have e3 := h12
              refine s_skip ?_
              have hpk : pickC x.e ((g.i : Nat) : Int) (fc o.cs ((g.i : Nat) : Int)) (fc x.cs ((g.i : Nat) : Int)) (fc y.cs ((g.i : Nat) : Int)) = (none, []) := by unfold fc pickC; rw [hfo, hfx, hfy]; first | (simp [e1, e2, e3]; done) | exact absurd rfl e1 | exact absurd rfl e2 | exact absurd rfl e3 | (simp only [Option.getD_some, Option.getD_none] at e1 e2 e3; simp [e1, e2, e3]; done)
              exact ⟨⟨false, (default : CR).A, (default : CR).n, (default : CR).c, (default : CR).vs, [], g.kl, g.A, g.C, g.cE⟩, ⟨hX.2.2.2.ms orM_left, hX.1, by have := hX.2.2.1; exact this, by rw [hpk]; rfl, hko, by rw [hpk]; exact (List.append_nil _).symm, by dsimp only; omega⟩, ⟨rfl, rfl, rfl, rfl, rfl, rfl, rfl, rfl, rfl, rfl, rfl, trivial⟩, (sub_picks [9, 3, 3, 0, 0, 0, 0, 0, 0, 0] rfl)⟩
            · have e3 := h13
              refine s_pull 3 ?_
              refine s_pull 4 ?_
              refine s_drawn 2 (by kernel_rfl) ?_
              refine d_val (i := 0) rfl (by kernel_rfl) (by kernel_rfl) (by kernel_rfl) rfl rfl rfl (y_move (v := (.pointer _)) rfl) ?_
              refine d_val (i := 1) rfl (by kernel_rfl) (by kernel_rfl) (by kernel_rfl) rfl rfl rfl (y_move (v := (.pointer _)) rfl) ?_
              refine d_val (i := 2) rfl (by kernel_rfl) (by kernel_rfl) (by kernel_rfl) rfl rfl rfl (y_nilCheck rfl) ?_
              refine d_val (i := 3) rfl (by kernel_rfl) (by kernel_rfl) (by kernel_rfl) rfl rfl rfl (y_field0 Try.runUnderlying184 rfl Try.sizeOf50 rfl rfl) ?_
              refine d_val (i := 5) rfl (by kernel_rfl) (by kernel_rfl) (by kernel_rfl) rfl rfl rfl (y_field0 Try.runUnderlying136 rfl Try.sizeOf117 rfl rfl) ?_
              refine d_val (i := 6) rfl (by kernel_rfl) (by kernel_rfl) (by kernel_rfl) rfl rfl rfl (y_field0 Try.runUnderlying117 rfl Try.sizeOf3 rfl rfl) ?_
              refine d_val (i := 7) rfl (by kernel_rfl) (by kernel_rfl) (by kernel_rfl) rfl rfl rfl (y_load Try.isAgg3 rfl (cel_own 4 rfl rfl)) ?_
              refine d_val (i := 8) rfl (by kernel_rfl) (by kernel_rfl) (by kernel_rfl) rfl rfl rfl (y_move (v := (.int _ _)) rfl) ?_
              refine d_val (i := 9) rfl (by kernel_rfl) (by kernel_rfl) (by kernel_rfl) rfl rfl rfl (y_build (vs := [(0, .int _ _), (1, .int _ _), (2, .int _ _), (3, .int _ _)]) rfl (CompsM_k1 _ _ _ _)) ?_
              refine d_eff2 (k := 4) (k' := 10) (n := 2) (m := 8) rfl rfl (by kernel_rfl) rfl ?_ ?_
              · refine o_val rfl rfl rfl (y_load Try.isAgg50 rfl (cel_own 1 rfl rfl)) ?_
                refine o_nil ?_
                refine d_eff (k := 10) (n := 2) (m := 8) rfl (by kernel_rfl) rfl ?_
                refine o_lit (vs := [(0, .agg #[.int _ _, .int _ _, .int _ _, .int _ _])]) rfl rfl (CompsM_k2 _ _ _ _) (fun b14 => ?_)
                refine o_nil ?_
                refine d_eff (k := 11) (n := 2) (m := 8) rfl (by kernel_rfl) rfl ?_
                refine o_append (sz := 4) (bytes := 32) (news := [(.int _ _), (.int _ _), (.int _ _), (.int _ _)]) 0 rfl Try.underlying50 Try.type68 rfl rfl rfl rfl rfl hko rfl rfl (Src.slice Try.underlying50 (cels_own 10 rfl rfl) rfl (by simp [Value.oneCell']) (by simp)) (by omega) (fun A15 c16 E17 ho18 hn19 => ?_)
                have ho20 : OS A15 (g.kl.length + 1) c16 68 4 ((g.kl ++ [KL.mk 1 x.e ((g.i : Nat) : Int) 0]).flatMap encKL) E17 := os_snoc ho18 rfl
                clear ho18
                refine o_nil ?_
                refine d_val (i := 12) rfl (by kernel_rfl) (by kernel_rfl) (by kernel_rfl) rfl rfl rfl (y_nilCheck rfl) ?_
                refine d_val (i := 13) rfl (by kernel_rfl) (by kernel_rfl) (by kernel_rfl) rfl rfl rfl (y_field0 Try.runUnderlying184 rfl Try.sizeOf50 rfl rfl) ?_
                refine d_eff (k := 14) (n := 2) (m := 8) rfl (by kernel_rfl) rfl ?_
                refine o_store (v := (.slice _ _ _)) 1 rfl Try.sizeOf50 rfl rfl rfl rfl ?_
                refine o_nil ?_
                refine d_nil (n := 2) (m := 8) (by kernel_rfl) rfl ?_
                have hpk : pickC x.e ((g.i : Nat) : Int) (fc o.cs ((g.i : Nat) : Int)) (fc x.cs ((g.i : Nat) : Int)) (fc y.cs ((g.i : Nat) : Int)) = (none, [KL.mk 1 x.e ((g.i : Nat) : Int) 0]) := by unfold fc pickC; rw [hfo, hfx, hfy]; first | (simp [e1, e2, e3]; done) | exact absurd rfl e1 | exact absurd rfl e2 | exact absurd rfl e3 | (simp only [Option.getD_some, Option.getD_none] at e1 e2 e3; simp [e1, e2, e3]; done)
                exact ⟨⟨false, (default : CR).A, (default : CR).n, (default : CR).c, (default : CR).vs, [], g.kl ++ [KL.mk 1 x.e ((g.i : Nat) : Int) 0], A15, c16, E17⟩, ⟨hX.2.2.2.ms orM_left, hX.1, by have := hX.2.2.1; exact this, by rw [hpk]; rfl, by rw [List.length_append]; exact ho20, by rw [hpk], by dsimp only; rw [List.length_append, List.length_singleton]; omega⟩, ⟨rfl, rfl, rfl, rfl, rfl, rfl, rfl, rfl, rfl, rfl, rfl, trivial⟩, (by rw [List.length_append]; exact sub_picks [9, 1, 0, 0, 0, 0, 0, 0, 0, 0] rfl)⟩
              · refine o_lit (vs := [(0, .agg #[.int _ _, .int _ _, .int _ _, .int _ _])]) rfl rfl (CompsM_k2 _ _ _ _) (fun b21 => ?_)
                refine o_nil ?_
                refine d_now (i := 4) [] rfl (by kernel_rfl) (by kernel_rfl) (by kernel_rfl) rfl rfl rfl (y_load Try.isAgg50 rfl (cel_own 1 rfl rfl)) trivial ?_
                refine d_eff (k := 11) (n := 2) (m := 8) rfl (by kernel_rfl) rfl ?_
                refine o_append (sz := 4) (bytes := 32) (news := [(.int _ _), (.int _ _), (.int _ _), (.int _ _)]) 0 rfl Try.underlying50 Try.type68 rfl rfl rfl rfl rfl hko rfl rfl (Src.slice Try.underlying50 (cels_own 10 rfl rfl) rfl (by simp [Value.oneCell']) (by simp)) (by omega) (fun A22 c23 E24 ho25 hn26 => ?_)
                have ho27 : OS A22 (g.kl.length + 1) c23 68 4 ((g.kl ++ [KL.mk 1 x.e ((g.i : Nat) : Int) 0]).flatMap encKL) E24 := os_snoc ho25 rfl
                clear ho25
                refine o_nil ?_
                refine d_val (i := 12) rfl (by kernel_rfl) (by kernel_rfl) (by kernel_rfl) rfl rfl rfl (y_nilCheck rfl) ?_
                refine d_val (i := 13) rfl (by kernel_rfl) (by kernel_rfl) (by kernel_rfl) rfl rfl rfl (y_field0 Try.runUnderlying184 rfl Try.sizeOf50 rfl rfl) ?_
                refine d_eff (k := 14) (n := 2) (m := 8) rfl (by kernel_rfl) rfl ?_
                refine o_store (v := (.slice _ _ _)) 1 rfl Try.sizeOf50 rfl rfl rfl rfl ?_
                refine o_nil ?_
                refine d_nil (n := 2) (m := 8) (by kernel_rfl) rfl ?_
                have hpk : pickC x.e ((g.i : Nat) : Int) (fc o.cs ((g.i : Nat) : Int)) (fc x.cs ((g.i : Nat) : Int)) (fc y.cs ((g.i : Nat) : Int)) = (none, [KL.mk 1 x.e ((g.i : Nat) : Int) 0]) := by unfold fc pickC; rw [hfo, hfx, hfy]; first | (simp [e1, e2, e3]; done) | exact absurd rfl e1 | exact absurd rfl e2 | exact absurd rfl e3 | (simp only [Option.getD_some, Option.getD_none] at e1 e2 e3; simp [e1, e2, e3]; done)
                exact ⟨⟨false, (default : CR).A, (default : CR).n, (default : CR).c, (default : CR).vs, [], g.kl ++ [KL.mk 1 x.e ((g.i : Nat) : Int) 0], A22, c23, E24⟩, ⟨hX.2.2.2.ms orM_left, hX.1, by have := hX.2.2.1; exact this, by rw [hpk]; rfl, by rw [List.length_append]; exact ho27, by rw [hpk], by dsimp only; rw [List.length_append, List.length_singleton]; omega⟩, ⟨rfl, rfl, rfl, rfl, rfl, rfl, rfl, rfl, rfl, rfl, rfl, trivial⟩, (by rw [List.length_append]; exact sub_picks [9, 1, 0, 0, 0, 0, 0, 0, 0, 0] rfl)⟩
      · refine o_val rfl rfl rfl (y_move (v := (.bool _)) rfl) ?_
        refine o_val rfl rfl rfl (y_move (v := (.bool _)) rfl) ?_
        refine o_guard_no rfl rfl rfl rfl rfl ?_
        refine o_val rfl rfl rfl (y_pick_f (v := (.bool _)) rfl rfl) ?_
        refine o_val rfl rfl rfl (y_move (v := (.bool _)) rfl) ?_
        refine o_guard_no rfl rfl rfl rfl rfl ?_
        refine o_val rfl rfl rfl (y_pick_f (v := (.bool _)) rfl rfl) ?_
        refine o_val rfl rfl rfl (y_assign (v := (.bool _)) rfl) ?_
        refine o_nil ?_
        refine s_else rfl ?_
        refine s_seq ?_
        refine s_region ?_
        refine o_val rfl rfl rfl (y_move (v := (.bool _)) rfl) ?_
        refine o_val rfl rfl rfl (y_move (v := (.bool _)) rfl) ?_
        refine o_val rfl rfl rfl (y_eql_bool Try.underlying4 rfl rfl) ?_
        refine o_val rfl rfl rfl (y_move (v := (.bool _)) rfl) ?_
        refine o_guard_no rfl rfl rfl rfl rfl ?_
        refine o_guard_no rfl rfl rfl rfl rfl ?_
        refine o_guard_no rfl rfl rfl rfl rfl ?_
        refine o_val rfl rfl rfl (y_pick_f (v := (.bool _)) rfl rfl) ?_
        refine o_val rfl rfl rfl (y_assign (v := (.bool _)) rfl) ?_
        refine o_nil ?_
        refine s_forget [(0, (.pointer _)), (7, (.pointer _)), (8, (.pointer _)), (9, (.pointer _)), (10, (.pointer _)), (11, (.pointer _)), (12, (.int _ _)), (13, (.slice _ _ _)), (14, (.bool _)), (15, (.slice _ _ _)), (16, (.bool _)), (17, (.slice _ _ _)), (18, (.bool _)), (19, (.bool _)), (20, (.slice _ _ _)), (24, (.int _ _)), (25, (.int _ _)), (79, (.bool _))] ⟨rfl, rfl, rfl, rfl, rfl, rfl, rfl, rfl, rfl, rfl, rfl, rfl, rfl, rfl, rfl, rfl, rfl, rfl, trivial⟩ (fun _f => ?_)
        refine s_else rfl ?_
        refine s_seq ?_
        refine s_region ?_
        refine o_val rfl rfl rfl (y_move (v := (.bool _)) rfl) ?_
        refine o_val rfl rfl rfl (y_move (v := (.bool _)) rfl) ?_
        refine o_val rfl rfl rfl (y_eql_bool Try.underlying4 rfl rfl) ?_
        refine o_val rfl rfl rfl (y_move (v := (.bool _)) rfl) ?_
        refine o_guard_yes rfl rfl ?_
        refine o_val rfl rfl rfl (y_move (v := (.slice _ _ _)) rfl) ?_
        refine o_guard_yes rfl rfl ?_
        refine o_val rfl rfl rfl (y_move (v := (.slice _ _ _)) rfl) ?_
        refine o_guard_yes rfl rfl ?_
        refine o_fn 0 (d := 95) rfl Try.call21 (EqualI_c _ _ _ _ hX.2.2.2.here.down hX.1 _ _ _ _ hO.2.2.2.here.down hO.1 (by have := hX.2.2.1; omega)) rfl ?_
        rintro _ _ ⟨rfl, rfl⟩
        refine o_val rfl rfl rfl (y_pick_t (v := (.bool _)) rfl rfl) ?_
        refine o_val rfl rfl rfl (y_assign (v := (.bool _)) rfl) ?_
        refine o_nil ?_
        refine s_if rfl (fun h28 => ?_) (fun h29 => ?_)
        · have e2 := h28
          refine s_region ?_
          refine o_val rfl rfl rfl (y_move (v := (.bool _)) rfl) ?_
          refine o_val rfl rfl rfl (y_move (v := (.slice _ _ _)) rfl) ?_
          refine o_val rfl rfl rfl (y_assign (v := (.bool _)) rfl) ?_
          refine o_val rfl rfl rfl (y_assign (v := (.slice _ _ _)) rfl) ?_
          refine o_nil ?_
          have hpk : pickC x.e ((g.i : Nat) : Int) (fc o.cs ((g.i : Nat) : Int)) (fc x.cs ((g.i : Nat) : Int)) (fc y.cs ((g.i : Nat) : Int)) = (some cy.vs, []) := by unfold fc pickC; rw [hfo, hfx, hfy]; first | (simp [e2]; done) | exact absurd rfl e2 | (simp only [Option.getD_some, Option.getD_none] at e2; simp [e2]; done)
          exact ⟨⟨true, cy.A, cy.n, cy.c, cy.vs, [], g.kl, g.A, g.C, g.cE⟩, ⟨hY.2.2.2.ms orM_left, hY.1, by have := hY.2.2.1; exact this, by rw [hpk]; rfl, hko, by rw [hpk]; exact (List.append_nil _).symm, by dsimp only; omega⟩, ⟨rfl, rfl, rfl, rfl, rfl, rfl, rfl, rfl, rfl, rfl, rfl, trivial⟩, (sub_picks [9, 3, 3, 0, 0, 0, 0, 0, 0, 0] rfl)⟩
        · have e2 := h29
          refine s_seq ?_
          refine s_region ?_
          refine o_val rfl rfl rfl (y_move (v := (.bool _)) rfl) ?_
          refine o_val rfl rfl rfl (y_move (v := (.bool _)) rfl) ?_
          refine o_val rfl rfl rfl (y_eql_bool Try.underlying4 rfl rfl) ?_
          refine o_val rfl rfl rfl (y_move (v := (.bool _)) rfl) ?_
          refine o_guard_no rfl rfl rfl rfl rfl ?_
          refine o_guard_no rfl rfl rfl rfl rfl ?_
          refine o_guard_no rfl rfl rfl rfl rfl ?_
          refine o_val rfl rfl rfl (y_pick_f (v := (.bool _)) rfl rfl) ?_
          refine o_val rfl rfl rfl (y_assign (v := (.bool _)) rfl) ?_
          refine o_nil ?_
          refine s_forget [(0, (.pointer _)), (7, (.pointer _)), (8, (.pointer _)), (9, (.pointer _)), (10, (.pointer _)), (11, (.pointer _)), (12, (.int _ _)), (19, (.bool _)), (20, (.slice _ _ _)), (24, (.int _ _)), (25, (.int _ _)), (99, (.bool _))] ⟨rfl, rfl, rfl, rfl, rfl, rfl, rfl, rfl, rfl, rfl, rfl, rfl, trivial⟩ (fun _f => ?_)
          refine s_else rfl ?_
          refine s_pull 3 ?_
          refine s_pull 4 ?_
          refine s_drawn 2 (by kernel_rfl) ?_
          refine d_val (i := 0) rfl (by kernel_rfl) (by kernel_rfl) (by kernel_rfl) rfl rfl rfl (y_move (v := (.pointer _)) rfl) ?_
          refine d_val (i := 1) rfl (by kernel_rfl) (by kernel_rfl) (by kernel_rfl) rfl rfl rfl (y_move (v := (.pointer _)) rfl) ?_
          refine d_val (i := 2) rfl (by kernel_rfl) (by kernel_rfl) (by kernel_rfl) rfl rfl rfl (y_nilCheck rfl) ?_
          refine d_val (i := 3) rfl (by kernel_rfl) (by kernel_rfl) (by kernel_rfl) rfl rfl rfl (y_field0 Try.runUnderlying184 rfl Try.sizeOf50 rfl rfl) ?_
          refine d_val (i := 5) rfl (by kernel_rfl) (by kernel_rfl) (by kernel_rfl) rfl rfl rfl (y_field0 Try.runUnderlying136 rfl Try.sizeOf117 rfl rfl) ?_
          refine d_val (i := 6) rfl (by kernel_rfl) (by kernel_rfl) (by kernel_rfl) rfl rfl rfl (y_field0 Try.runUnderlying117 rfl Try.sizeOf3 rfl rfl) ?_
          refine d_val (i := 7) rfl (by kernel_rfl) (by kernel_rfl) (by kernel_rfl) rfl rfl rfl (y_load Try.isAgg3 rfl (cel_own 4 rfl rfl)) ?_
          refine d_val (i := 8) rfl (by kernel_rfl) (by kernel_rfl) (by kernel_rfl) rfl rfl rfl (y_move (v := (.int _ _)) rfl) ?_
          refine d_val (i := 9) rfl (by kernel_rfl) (by kernel_rfl) (by kernel_rfl) rfl rfl rfl (y_build (vs := [(0, .int _ _), (1, .int _ _), (2, .int _ _), (3, .int _ _)]) rfl (CompsM_k1 _ _ _ _)) ?_
          refine d_eff2 (k := 4) (k' := 10) (n := 2) (m := 8) rfl rfl (by kernel_rfl) rfl ?_ ?_
          · refine o_val rfl rfl rfl (y_load Try.isAgg50 rfl (cel_own 1 rfl rfl)) ?_
            refine o_nil ?_
            refine d_eff (k := 10) (n := 2) (m := 8) rfl (by kernel_rfl) rfl ?_
            refine o_lit (vs := [(0, .agg #[.int _ _, .int _ _, .int _ _, .int _ _])]) rfl rfl (CompsM_k2 _ _ _ _) (fun b30 => ?_)
            refine o_nil ?_
            refine d_eff (k := 11) (n := 2) (m := 8) rfl (by kernel_rfl) rfl ?_
            refine o_append (sz := 4) (bytes := 32) (news := [(.int _ _), (.int _ _), (.int _ _), (.int _ _)]) 0 rfl Try.underlying50 Try.type68 rfl rfl rfl rfl rfl hko rfl rfl (Src.slice Try.underlying50 (cels_own 10 rfl rfl) rfl (by simp [Value.oneCell']) (by simp)) (by omega) (fun A31 c32 E33 ho34 hn35 => ?_)
            have ho36 : OS A31 (g.kl.length + 1) c32 68 4 ((g.kl ++ [KL.mk 1 x.e ((g.i : Nat) : Int) 0]).flatMap encKL) E33 := os_snoc ho34 rfl
            clear ho34
            refine o_nil ?_
            refine d_val (i := 12) rfl (by kernel_rfl) (by kernel_rfl) (by kernel_rfl) rfl rfl rfl (y_nilCheck rfl) ?_
            refine d_val (i := 13) rfl (by kernel_rfl) (by kernel_rfl) (by kernel_rfl) rfl rfl rfl (y_field0 Try.runUnderlying184 rfl Try.sizeOf50 rfl rfl) ?_
            refine d_eff (k := 14) (n := 2) (m := 8) rfl (by kernel_rfl) rfl ?_
            refine o_store (v := (.slice _ _ _)) 1 rfl Try.sizeOf50 rfl rfl rfl rfl ?_
            refine o_nil ?_
            refine d_nil (n := 2) (m := 8) (by kernel_rfl) rfl ?_
            have hpk : pickC x.e ((g.i : Nat) : Int) (fc o.cs ((g.i : Nat) : Int)) (fc x.cs ((g.i : Nat) : Int)) (fc y.cs ((g.i : Nat) : Int)) = (none, [KL.mk 1 x.e ((g.i : Nat) : Int) 0]) := by unfold fc pickC; rw [hfo, hfx, hfy]; first | (simp [e2]; done) | exact absurd rfl e2 | (simp only [Option.getD_some, Option.getD_none] at e2; simp [e2]; done)
            exact ⟨⟨false, (default : CR).A, (default : CR).n, (default : CR).c, (default : CR).vs, [], g.kl ++ [KL.mk 1 x.e ((g.i : Nat) : Int) 0], A31, c32, E33⟩, ⟨hX.2.2.2.ms orM_left, hX.1, by have := hX.2.2.1; exact this, by rw [hpk]; rfl, by rw [List.length_append]; exact ho36, by rw [hpk], by dsimp only; rw [List.length_append, List.length_singleton]; omega⟩, ⟨rfl, rfl, rfl, rfl, rfl, rfl, rfl, rfl, rfl, rfl, rfl, trivial⟩, (by rw [List.length_append]; exact sub_picks [9, 1, 0, 0, 0, 0, 0, 0, 0, 0] rfl)⟩
          · refine o_lit (vs := [(0, .agg #[.int _ _, .int _ _, .int _ _, .int _ _])]) rfl rfl (CompsM_k2 _ _ _ _) (fun b37 => ?_)
            refine o_nil ?_
            refine d_now (i := 4) [] rfl (by kernel_rfl) (by kernel_rfl) (by kernel_rfl) rfl rfl rfl (y_load Try.isAgg50 rfl (cel_own 1 rfl rfl)) trivial ?_
            refine d_eff (k := 11) (n := 2) (m := 8) rfl (by kernel_rfl) rfl ?_
            refine o_append (sz := 4) (bytes := 32) (news := [(.int _ _), (.int _ _), (.int _ _), (.int _ _)]) 0 rfl Try.underlying50 Try.type68 rfl rfl rfl rfl rfl hko rfl rfl (Src.slice Try.underlying50 (cels_own 10 rfl rfl) rfl (by simp [Value.oneCell']) (by simp)) (by omega) (fun A38 c39 E40 ho41 hn42 => ?_)
            have ho43 : OS A38 (g.kl.length + 1) c39 68 4 ((g.kl ++ [KL.mk 1 x.e ((g.i : Nat) : Int) 0]).flatMap encKL) E40 := os_snoc ho41 rfl
            clear ho41
            refine o_nil ?_
            refine d_val (i := 12) rfl (by kernel_rfl) (by kernel_rfl) (by kernel_rfl) rfl rfl rfl (y_nilCheck rfl) ?_
            refine d_val (i := 13) rfl (by kernel_rfl) (by kernel_rfl) (by kernel_rfl) rfl rfl rfl (y_field0 Try.runUnderlying184 rfl Try.sizeOf50 rfl rfl) ?_
            refine d_eff (k := 14) (n := 2) (m := 8) rfl (by kernel_rfl) rfl ?_
            refine o_store (v := (.slice _ _ _)) 1 rfl Try.sizeOf50 rfl rfl rfl rfl ?_
            refine o_nil ?_
            refine d_nil (n := 2) (m := 8) (by kernel_rfl) rfl ?_
            have hpk : pickC x.e ((g.i : Nat) : Int) (fc o.cs ((g.i : Nat) : Int)) (fc x.cs ((g.i : Nat) : Int)) (fc y.cs ((g.i : Nat) : Int)) = (none, [KL.mk 1 x.e ((g.i : Nat) : Int) 0]) := by unfold fc pickC; rw [hfo, hfx, hfy]; first | (simp [e2]; done) | exact absurd rfl e2 | (simp only [Option.getD_some, Option.getD_none] at e2; simp [e2]; done)
            exact ⟨⟨false, (default : CR).A, (default : CR).n, (default : CR).c, (default : CR).vs, [], g.kl ++ [KL.mk 1 x.e ((g.i : Nat) : Int) 0], A38, c39, E40⟩, ⟨hX.2.2.2.ms orM_left, hX.1, by have := hX.2.2.1; exact this, by rw [hpk]; rfl, by rw [List.length_append]; exact ho43, by rw [hpk], by dsimp only; rw [List.length_append, List.length_singleton]; omega⟩, ⟨rfl, rfl, rfl, rfl, rfl, rfl, rfl, rfl, rfl, rfl, rfl, trivial⟩, (by rw [List.length_append]; exact sub_picks [9, 1, 0, 0, 0, 0, 0, 0, 0, 0] rfl)⟩
      · refine o_val rfl rfl rfl (y_move (v := (.bool _)) rfl) ?_
        refine o_val rfl rfl rfl (y_move (v := (.bool _)) rfl) ?_
        refine o_guard_no rfl rfl rfl rfl rfl ?_
        refine o_val rfl rfl rfl (y_pick_f (v := (.bool _)) rfl rfl) ?_
        refine o_val rfl rfl rfl (y_move (v := (.bool _)) rfl) ?_
        refine o_guard_no rfl rfl rfl rfl rfl ?_
        refine o_val rfl rfl rfl (y_pick_f (v := (.bool _)) rfl rfl) ?_
        refine o_val rfl rfl rfl (y_assign (v := (.bool _)) rfl) ?_
        refine o_nil ?_
        refine s_else rfl ?_
        refine s_seq ?_
        refine s_region ?_
        refine o_val rfl rfl rfl (y_move (v := (.bool _)) rfl) ?_
        refine o_val rfl rfl rfl (y_move (v := (.bool _)) rfl) ?_
        refine o_val rfl rfl rfl (y_eql_bool Try.underlying4 rfl rfl) ?_
        refine o_val rfl rfl rfl (y_move (v := (.bool _)) rfl) ?_
        refine o_guard_no rfl rfl rfl rfl rfl ?_
        refine o_guard_no rfl rfl rfl rfl rfl ?_
        refine o_guard_no rfl rfl rfl rfl rfl ?_
        refine o_val rfl rfl rfl (y_pick_f (v := (.bool _)) rfl rfl) ?_
        refine o_val rfl rfl rfl (y_assign (v := (.bool _)) rfl) ?_
        refine o_nil ?_
        refine s_forget [(0, (.pointer _)), (7, (.pointer _)), (8, (.pointer _)), (9, (.pointer _)), (10, (.pointer _)), (11, (.pointer _)), (12, (.int _ _)), (13, (.slice _ _ _)), (14, (.bool _)), (15, (.slice _ _ _)), (16, (.bool _)), (17, (.slice _ _ _)), (18, (.bool _)), (19, (.bool _)), (20, (.slice _ _ _)), (24, (.int _ _)), (25, (.int _ _)), (79, (.bool _))] ⟨rfl, rfl, rfl, rfl, rfl, rfl, rfl, rfl, rfl, rfl, rfl, rfl, rfl, rfl, rfl, rfl, rfl, rfl, trivial⟩ (fun _f => ?_)
        refine s_else rfl ?_
        refine s_seq ?_
        refine s_region ?_
        refine o_val rfl rfl rfl (y_move (v := (.bool _)) rfl) ?_
        refine o_val rfl rfl rfl (y_move (v := (.bool _)) rfl) ?_
        refine o_val rfl rfl rfl (y_eql_bool Try.underlying4 rfl rfl) ?_
        refine o_val rfl rfl rfl (y_move (v := (.bool _)) rfl) ?_
        refine o_guard_no rfl rfl rfl rfl rfl ?_
        refine o_guard_no rfl rfl rfl rfl rfl ?_
        refine o_guard_no rfl rfl rfl rfl rfl ?_
        refine o_val rfl rfl rfl (y_pick_f (v := (.bool _)) rfl rfl) ?_
        refine o_val rfl rfl rfl (y_assign (v := (.bool _)) rfl) ?_
        refine o_nil ?_
        refine s_else rfl ?_
        refine s_seq ?_
        refine s_region ?_
        refine o_val rfl rfl rfl (y_move (v := (.bool _)) rfl) ?_
        refine o_val rfl rfl rfl (y_move (v := (.bool _)) rfl) ?_
        refine o_val rfl rfl rfl (y_eql_bool Try.underlying4 rfl rfl) ?_
        refine o_val rfl rfl rfl (y_move (v := (.bool _)) rfl) ?_
        refine o_guard_yes rfl rfl ?_
        refine o_val rfl rfl rfl (y_move (v := (.slice _ _ _)) rfl) ?_
        refine o_guard_yes rfl rfl ?_
        refine o_val rfl rfl rfl (y_move (v := (.slice _ _ _)) rfl) ?_
        refine o_guard_yes rfl rfl ?_
        refine o_fn 0 (d := 106) rfl Try.call21 (EqualI_c _ _ _ _ hY.2.2.2.here.down hY.1 _ _ _ _ hO.2.2.2.here.down hO.1 (by have := hY.2.2.1; omega)) rfl ?_
        rintro _ _ ⟨rfl, rfl⟩
        refine o_val rfl rfl rfl (y_pick_t (v := (.bool _)) rfl rfl) ?_
        refine o_val rfl rfl rfl (y_assign (v := (.bool _)) rfl) ?_
        refine o_nil ?_
        refine s_forget [(0, (.pointer _)), (7, (.pointer _)), (8, (.pointer _)), (9, (.pointer _)), (10, (.pointer _)), (11, (.pointer _)), (12, (.int _ _)), (19, (.bool _)), (20, (.slice _ _ _)), (24, (.int _ _)), (25, (.int _ _)), (99, (.bool _))] ⟨rfl, rfl, rfl, rfl, rfl, rfl, rfl, rfl, rfl, rfl, rfl, rfl, trivial⟩ (fun _f => ?_)
        refine s_if rfl (fun h44 => ?_) (fun h45 => ?_)
        · have e3 := h44
          refine s_skip ?_
          have hpk : pickC x.e ((g.i : Nat) : Int) (fc o.cs ((g.i : Nat) : Int)) (fc x.cs ((g.i : Nat) : Int)) (fc y.cs ((g.i : Nat) : Int)) = (some cx.vs, []) := by unfold fc pickC; rw [hfo, hfx, hfy]; first | (simp [e3]; done) | exact absurd rfl e3 | (simp only [Option.getD_some, Option.getD_none] at e3; simp [e3]; done)
          exact ⟨⟨true, cx.A, cx.n, cx.c, cx.vs, [], g.kl, g.A, g.C, g.cE⟩, ⟨hX.2.2.2.ms orM_left, hX.1, by have := hX.2.2.1; exact this, by rw [hpk]; rfl, hko, by rw [hpk]; exact (List.append_nil _).symm, by dsimp only; omega⟩, ⟨rfl, rfl, rfl, rfl, rfl, rfl, rfl, rfl, rfl, rfl, rfl, trivial⟩, (sub_picks [9, 3, 3, 0, 0, 0, 0, 0, 0, 0] rfl)⟩
        · have e3 := h45
          refine s_pull 3 ?_
          refine s_pull 4 ?_
          refine s_drawn 2 (by kernel_rfl) ?_
          refine d_val (i := 0) rfl (by kernel_rfl) (by kernel_rfl) (by kernel_rfl) rfl rfl rfl (y_move (v := (.pointer _)) rfl) ?_
          refine d_val (i := 1) rfl (by kernel_rfl) (by kernel_rfl) (by kernel_rfl) rfl rfl rfl (y_move (v := (.pointer _)) rfl) ?_
          refine d_val (i := 2) rfl (by kernel_rfl) (by kernel_rfl) (by kernel_rfl) rfl rfl rfl (y_nilCheck rfl) ?_
          refine d_val (i := 3) rfl (by kernel_rfl) (by kernel_rfl) (by kernel_rfl) rfl rfl rfl (y_field0 Try.runUnderlying184 rfl Try.sizeOf50 rfl rfl) ?_
          refine d_val (i := 5) rfl (by kernel_rfl) (by kernel_rfl) (by kernel_rfl) rfl rfl rfl (y_field0 Try.runUnderlying136 rfl Try.sizeOf117 rfl rfl) ?_
          refine d_val (i := 6) rfl (by kernel_rfl) (by kernel_rfl) (by kernel_rfl) rfl rfl rfl (y_field0 Try.runUnderlying117 rfl Try.sizeOf3 rfl rfl) ?_
          refine d_val (i := 7) rfl (by kernel_rfl) (by kernel_rfl) (by kernel_rfl) rfl rfl rfl (y_load Try.isAgg3 rfl (cel_own 4 rfl rfl)) ?_
          refine d_val (i := 8) rfl (by kernel_rfl) (by kernel_rfl) (by kernel_rfl) rfl rfl rfl (y_move (v := (.int _ _)) rfl) ?_
          refine d_val (i := 9) rfl (by kernel_rfl) (by kernel_rfl) (by kernel_rfl) rfl rfl rfl (y_build (vs := [(0, .int _ _), (1, .int _ _), (2, .int _ _), (3, .int _ _)]) rfl (CompsM_k1 _ _ _ _)) ?_
          refine d_eff2 (k := 4) (k' := 10) (n := 2) (m := 8) rfl rfl (by kernel_rfl) rfl ?_ ?_
          · refine o_val rfl rfl rfl (y_load Try.isAgg50 rfl (cel_own 1 rfl rfl)) ?_
            refine o_nil ?_
            refine d_eff (k := 10) (n := 2) (m := 8) rfl (by kernel_rfl) rfl ?_
            refine o_lit (vs := [(0, .agg #[.int _ _, .int _ _, .int _ _, .int _ _])]) rfl rfl (CompsM_k2 _ _ _ _) (fun b46 => ?_)
            refine o_nil ?_
            refine d_eff (k := 11) (n := 2) (m := 8) rfl (by kernel_rfl) rfl ?_
            refine o_append (sz := 4) (bytes := 32) (news := [(.int _ _), (.int _ _), (.int _ _), (.int _ _)]) 0 rfl Try.underlying50 Try.type68 rfl rfl rfl rfl rfl hko rfl rfl (Src.slice Try.underlying50 (cels_own 10 rfl rfl) rfl (by simp [Value.oneCell']) (by simp)) (by omega) (fun A47 c48 E49 ho50 hn51 => ?_)
            have ho52 : OS A47 (g.kl.length + 1) c48 68 4 ((g.kl ++ [KL.mk 1 x.e ((g.i : Nat) : Int) 0]).flatMap encKL) E49 := os_snoc ho50 rfl
            clear ho50
            refine o_nil ?_
            refine d_val (i := 12) rfl (by kernel_rfl) (by kernel_rfl) (by kernel_rfl) rfl rfl rfl (y_nilCheck rfl) ?_
            refine d_val (i := 13) rfl (by kernel_rfl) (by kernel_rfl) (by kernel_rfl) rfl rfl rfl (y_field0 Try.runUnderlying184 rfl Try.sizeOf50 rfl rfl) ?_
            refine d_eff (k := 14) (n := 2) (m := 8) rfl (by kernel_rfl) rfl ?_
            refine o_store (v := (.slice _ _ _)) 1 rfl Try.sizeOf50 rfl rfl rfl rfl ?_
            refine o_nil ?_
            refine d_nil (n := 2) (m := 8) (by kernel_rfl) rfl ?_
            have hpk : pickC x.e ((g.i : Nat) : Int) (fc o.cs ((g.i : Nat) : Int)) (fc x.cs ((g.i : Nat) : Int)) (fc y.cs ((g.i : Nat) : Int)) = (some cx.vs, [KL.mk 1 x.e ((g.i : Nat) : Int) 0]) := by unfold fc pickC; rw [hfo, hfx, hfy]; first | (simp [e3]; done) | exact absurd rfl e3 | (simp only [Option.getD_some, Option.getD_none] at e3; simp [e3]; done)
            exact ⟨⟨true, cx.A, cx.n, cx.c, cx.vs, [], g.kl ++ [KL.mk 1 x.e ((g.i : Nat) : Int) 0], A47, c48, E49⟩, ⟨hX.2.2.2.ms orM_left, hX.1, by have := hX.2.2.1; exact this, by rw [hpk]; rfl, by rw [List.length_append]; exact ho52, by rw [hpk], by dsimp only; rw [List.length_append, List.length_singleton]; omega⟩, ⟨rfl, rfl, rfl, rfl, rfl, rfl, rfl, rfl, rfl, rfl, rfl, trivial⟩, (by rw [List.length_append]; exact sub_picks [9, 1, 0, 0, 0, 0, 0, 0, 0, 0] rfl)⟩
          · refine o_lit (vs := [(0, .agg #[.int _ _, .int _ _, .int _ _, .int _ _])]) rfl rfl (CompsM_k2 _ _ _ _) (fun b53 => ?_)
            refine o_nil ?_
            refine d_now (i := 4) [] rfl (by kernel_rfl) (by kernel_rfl) (by kernel_rfl) rfl rfl rfl (y_load Try.isAgg50 rfl (cel_own 1 rfl rfl)) trivial ?_
            refine d_eff (k := 11) (n := 2) (m := 8) rfl (by kernel_rfl) rfl ?_
            refine o_append (sz := 4) (bytes := 32) (news := [(.int _ _), (.int _ _), (.int _ _), (.int _ _)]) 0 rfl Try.underlying50 Try.type68 rfl rfl rfl rfl rfl hko rfl rfl (Src.slice Try.underlying50 (cels_own 10 rfl rfl) rfl (by simp [Value.oneCell']) (by simp)) (by omega) (fun A54 c55 E56 ho57 hn58 => ?_)
            have ho59 : OS A54 (g.kl.length + 1) c55 68 4 ((g.kl ++ [KL.mk 1 x.e ((g.i : Nat) : Int) 0]).flatMap encKL) E56 := os_snoc ho57 rfl
            clear ho57
            refine o_nil ?_
            refine d_val (i := 12) rfl (by kernel_rfl) (by kernel_rfl) (by kernel_rfl) rfl rfl rfl (y_nilCheck rfl) ?_
            refine d_val (i := 13) rfl (by kernel_rfl) (by kernel_rfl) (by kernel_rfl) rfl rfl rfl (y_field0 Try.runUnderlying184 rfl Try.sizeOf50 rfl rfl) ?_
            refine d_eff (k := 14) (n := 2) (m := 8) rfl (by kernel_rfl) rfl ?_
            refine o_store (v := (.slice _ _ _)) 1 rfl Try.sizeOf50 rfl rfl rfl rfl ?_
            refine o_nil ?_
            refine d_nil (n := 2) (m := 8) (by kernel_rfl) rfl ?_
            have hpk : pickC x.e ((g.i : Nat) : Int) (fc o.cs ((g.i : Nat) : Int)) (fc x.cs ((g.i : Nat) : Int)) (fc y.cs ((g.i : Nat) : Int)) = (some cx.vs, [KL.mk 1 x.e ((g.i : Nat) : Int) 0]) := by unfold fc pickC; rw [hfo, hfx, hfy]; first | (simp [e3]; done) | exact absurd rfl e3 | (simp only [Option.getD_some, Option.getD_none] at e3; simp [e3]; done)
            exact ⟨⟨true, cx.A, cx.n, cx.c, cx.vs, [], g.kl ++ [KL.mk 1 x.e ((g.i : Nat) : Int) 0], A54, c55, E56⟩, ⟨hX.2.2.2.ms orM_left, hX.1, by have := hX.2.2.1; exact this, by rw [hpk]; rfl, by rw [List.length_append]; exact ho59, by rw [hpk], by dsimp only; rw [List.length_append, List.length_singleton]; omega⟩, ⟨rfl, rfl, rfl, rfl, rfl, rfl, rfl, rfl, rfl, rfl, rfl, trivial⟩, (by rw [List.length_append]; exact sub_picks [9, 1, 0, 0, 0, 0, 0, 0, 0, 0] rfl)⟩
      · refine o_val rfl rfl rfl (y_move (v := (.bool _)) rfl) ?_
        refine o_val rfl rfl rfl (y_move (v := (.bool _)) rfl) ?_
        refine o_guard_no rfl rfl rfl rfl rfl ?_
        refine o_val rfl rfl rfl (y_pick_f (v := (.bool _)) rfl rfl) ?_
        refine o_val rfl rfl rfl (y_move (v := (.bool _)) rfl) ?_
        refine o_guard_no rfl rfl rfl rfl rfl ?_
        refine o_val rfl rfl rfl (y_pick_f (v := (.bool _)) rfl rfl) ?_
        refine o_val rfl rfl rfl (y_assign (v := (.bool _)) rfl) ?_
        refine o_nil ?_
        refine s_else rfl ?_
        refine s_seq ?_
        refine s_region ?_
        refine o_val rfl rfl rfl (y_move (v := (.bool _)) rfl) ?_
        refine o_val rfl rfl rfl (y_move (v := (.bool _)) rfl) ?_
        refine o_val rfl rfl rfl (y_eql_bool Try.underlying4 rfl rfl) ?_
        refine o_val rfl rfl rfl (y_move (v := (.bool _)) rfl) ?_
        refine o_guard_yes rfl rfl ?_
        refine o_val rfl rfl rfl (y_move (v := (.slice _ _ _)) rfl) ?_
        refine o_guard_yes rfl rfl ?_
        refine o_val rfl rfl rfl (y_move (v := (.slice _ _ _)) rfl) ?_
        refine o_guard_yes rfl rfl ?_
        refine o_fn 0 (d := 86) rfl Try.call21 (EqualI_c _ _ _ _ hX.2.2.2.here.down hX.1 _ _ _ _ hY.2.2.2.here.down hY.1 (by have := hX.2.2.1; omega)) rfl ?_
        rintro _ _ ⟨rfl, rfl⟩
        refine o_val rfl rfl rfl (y_pick_t (v := (.bool _)) rfl rfl) ?_
        refine o_val rfl rfl rfl (y_assign (v := (.bool _)) rfl) ?_
        refine o_nil ?_
        refine s_forget [(0, (.pointer _)), (7, (.pointer _)), (8, (.pointer _)), (9, (.pointer _)), (10, (.pointer _)), (11, (.pointer _)), (12, (.int _ _)), (13, (.slice _ _ _)), (14, (.bool _)), (15, (.slice _ _ _)), (16, (.bool _)), (17, (.slice _ _ _)), (18, (.bool _)), (19, (.bool _)), (20, (.slice _ _ _)), (24, (.int _ _)), (25, (.int _ _)), (79, (.bool _))] ⟨rfl, rfl, rfl, rfl, rfl, rfl, rfl, rfl, rfl, rfl, rfl, rfl, rfl, rfl, rfl, rfl, rfl, rfl, trivial⟩ (fun _f => ?_)
        refine s_if rfl (fun h60 => ?_) (fun h61 => ?_)
        · have e1 := h60
          refine s_skip ?_
          have hpk : pickC x.e ((g.i : Nat) : Int) (fc o.cs ((g.i : Nat) : Int)) (fc x.cs ((g.i : Nat) : Int)) (fc y.cs ((g.i : Nat) : Int)) = (some cx.vs, []) := by unfold fc pickC; rw [hfo, hfx, hfy]; first | (simp [e1]; done) | exact absurd rfl e1 | (simp only [Option.getD_some, Option.getD_none] at e1; simp [e1]; done)
          exact ⟨⟨true, cx.A, cx.n, cx.c, cx.vs, [], g.kl, g.A, g.C, g.cE⟩, ⟨hX.2.2.2.ms orM_left, hX.1, by have := hX.2.2.1; exact this, by rw [hpk]; rfl, hko, by rw [hpk]; exact (List.append_nil _).symm, by dsimp only; omega⟩, ⟨rfl, rfl, rfl, rfl, rfl, rfl, rfl, rfl, rfl, rfl, rfl, trivial⟩, (sub_picks [9, 3, 3, 0, 0, 0, 0, 0, 0, 0] rfl)⟩
        · have e1 := h61
          refine s_seq ?_
          refine s_region ?_
          refine o_val rfl rfl rfl (y_move (v := (.bool _)) rfl) ?_
          refine o_val rfl rfl rfl (y_move (v := (.bool _)) rfl) ?_
          refine o_val rfl rfl rfl (y_eql_bool Try.underlying4 rfl rfl) ?_
          refine o_val rfl rfl rfl (y_move (v := (.bool _)) rfl) ?_
          refine o_guard_no rfl rfl rfl rfl rfl ?_
          refine o_guard_no rfl rfl rfl rfl rfl ?_
          refine o_guard_no rfl rfl rfl rfl rfl ?_
          refine o_val rfl rfl rfl (y_pick_f (v := (.bool _)) rfl rfl) ?_
          refine o_val rfl rfl rfl (y_assign (v := (.bool _)) rfl) ?_
          refine o_nil ?_
          refine s_else rfl ?_
          refine s_seq ?_
          refine s_region ?_
          refine o_val rfl rfl rfl (y_move (v := (.bool _)) rfl) ?_
          refine o_val rfl rfl rfl (y_move (v := (.bool _)) rfl) ?_
          refine o_val rfl rfl rfl (y_eql_bool Try.underlying4 rfl rfl) ?_
          refine o_val rfl rfl rfl (y_move (v := (.bool _)) rfl) ?_
          refine o_guard_no rfl rfl rfl rfl rfl ?_
          refine o_guard_no rfl rfl rfl rfl rfl ?_
          refine o_guard_no rfl rfl rfl rfl rfl ?_
          refine o_val rfl rfl rfl (y_pick_f (v := (.bool _)) rfl rfl) ?_
          refine o_val rfl rfl rfl (y_assign (v := (.bool _)) rfl) ?_
          refine o_nil ?_
          refine s_forget [(0, (.pointer _)), (7, (.pointer _)), (8, (.pointer _)), (9, (.pointer _)), (10, (.pointer _)), (11, (.pointer _)), (12, (.int _ _)), (19, (.bool _)), (20, (.slice _ _ _)), (24, (.int _ _)), (25, (.int _ _)), (99, (.bool _))] ⟨rfl, rfl, rfl, rfl, rfl, rfl, rfl, rfl, rfl, rfl, rfl, rfl, trivial⟩ (fun _f => ?_)
          refine s_else rfl ?_
          refine s_pull 3 ?_
          refine s_pull 4 ?_
          refine s_drawn 2 (by kernel_rfl) ?_
          refine d_val (i := 0) rfl (by kernel_rfl) (by kernel_rfl) (by kernel_rfl) rfl rfl rfl (y_move (v := (.pointer _)) rfl) ?_
          refine d_val (i := 1) rfl (by kernel_rfl) (by kernel_rfl) (by kernel_rfl) rfl rfl rfl (y_move (v := (.pointer _)) rfl) ?_
          refine d_val (i := 2) rfl (by kernel_rfl) (by kernel_rfl) (by kernel_rfl) rfl rfl rfl (y_nilCheck rfl) ?_
          refine d_val (i := 3) rfl (by kernel_rfl) (by kernel_rfl) (by kernel_rfl) rfl rfl rfl (y_field0 Try.runUnderlying184 rfl Try.sizeOf50 rfl rfl) ?_
          refine d_val (i := 5) rfl (by kernel_rfl) (by kernel_rfl) (by kernel_rfl) rfl rfl rfl (y_field0 Try.runUnderlying136 rfl Try.sizeOf117 rfl rfl) ?_
          refine d_val (i := 6) rfl (by kernel_rfl) (by kernel_rfl) (by kernel_rfl) rfl rfl rfl (y_field0 Try.runUnderlying117 rfl Try.sizeOf3 rfl rfl) ?_
          refine d_val (i := 7) rfl (by kernel_rfl) (by kernel_rfl) (by kernel_rfl) rfl rfl rfl (y_load Try.isAgg3 rfl (cel_own 4 rfl rfl)) ?_
          refine d_val (i := 8) rfl (by kernel_rfl) (by kernel_rfl) (by kernel_rfl) rfl rfl rfl (y_move (v := (.int _ _)) rfl) ?_
          refine d_val (i := 9) rfl (by kernel_rfl) (by kernel_rfl) (by kernel_rfl) rfl rfl rfl (y_build (vs := [(0, .int _ _), (1, .int _ _), (2, .int _ _), (3, .int _ _)]) rfl (CompsM_k1 _ _ _ _)) ?_
          refine d_eff2 (k := 4) (k' := 10) (n := 2) (m := 8) rfl rfl (by kernel_rfl) rfl ?_ ?_
          · refine o_val rfl rfl rfl (y_load Try.isAgg50 rfl (cel_own 1 rfl rfl)) ?_
            refine o_nil ?_
            refine d_eff (k := 10) (n := 2) (m := 8) rfl (by kernel_rfl) rfl ?_
            refine o_lit (vs := [(0, .agg #[.int _ _, .int _ _, .int _ _, .int _ _])]) rfl rfl (CompsM_k2 _ _ _ _) (fun b62 => ?_)
            refine o_nil ?_
            refine d_eff (k := 11) (n := 2) (m := 8) rfl (by kernel_rfl) rfl ?_
            refine o_append (sz := 4) (bytes := 32) (news := [(.int _ _), (.int _ _), (.int _ _), (.int _ _)]) 0 rfl Try.underlying50 Try.type68 rfl rfl rfl rfl rfl hko rfl rfl (Src.slice Try.underlying50 (cels_own 10 rfl rfl) rfl (by simp [Value.oneCell']) (by simp)) (by omega) (fun A63 c64 E65 ho66 hn67 => ?_)
            have ho68 : OS A63 (g.kl.length + 1) c64 68 4 ((g.kl ++ [KL.mk 1 x.e ((g.i : Nat) : Int) 0]).flatMap encKL) E65 := os_snoc ho66 rfl
            clear ho66
            refine o_nil ?_
            refine d_val (i := 12) rfl (by kernel_rfl) (by kernel_rfl) (by kernel_rfl) rfl rfl rfl (y_nilCheck rfl) ?_
            refine d_val (i := 13) rfl (by kernel_rfl) (by kernel_rfl) (by kernel_rfl) rfl rfl rfl (y_field0 Try.runUnderlying184 rfl Try.sizeOf50 rfl rfl) ?_
            refine d_eff (k := 14) (n := 2) (m := 8) rfl (by kernel_rfl) rfl ?_
            refine o_store (v := (.slice _ _ _)) 1 rfl Try.sizeOf50 rfl rfl rfl rfl ?_
            refine o_nil ?_
            refine d_nil (n := 2) (m := 8) (by kernel_rfl) rfl ?_
            have hpk : pickC x.e ((g.i : Nat) : Int) (fc o.cs ((g.i : Nat) : Int)) (fc x.cs ((g.i : Nat) : Int)) (fc y.cs ((g.i : Nat) : Int)) = (some cx.vs, [KL.mk 1 x.e ((g.i : Nat) : Int) 0]) := by unfold fc pickC; rw [hfo, hfx, hfy]; first | (simp [e1]; done) | exact absurd rfl e1 | (simp only [Option.getD_some, Option.getD_none] at e1; simp [e1]; done)
            exact ⟨⟨true, cx.A, cx.n, cx.c, cx.vs, [], g.kl ++ [KL.mk 1 x.e ((g.i : Nat) : Int) 0], A63, c64, E65⟩, ⟨hX.2.2.2.ms orM_left, hX.1, by have := hX.2.2.1; exact this, by rw [hpk]; rfl, by rw [List.length_append]; exact ho68, by rw [hpk], by dsimp only; rw [List.length_append, List.length_singleton]; omega⟩, ⟨rfl, rfl, rfl, rfl, rfl, rfl, rfl, rfl, rfl, rfl, rfl, trivial⟩, (by rw [List.length_append]; exact sub_picks [9, 1, 0, 0, 0, 0, 0, 0, 0, 0] rfl)⟩
          · refine o_lit (vs := [(0, .agg #[.int _ _, .int _ _, .int _ _, .int _ _])]) rfl rfl (CompsM_k2 _ _ _ _) (fun b69 => ?_)
            refine o_nil ?_
            refine d_now (i := 4) [] rfl (by kernel_rfl) (by kernel_rfl) (by kernel_rfl) rfl rfl rfl (y_load Try.isAgg50 rfl (cel_own 1 rfl rfl)) trivial ?_
            refine d_eff (k := 11) (n := 2) (m := 8) rfl (by kernel_rfl) rfl ?_
            refine o_append (sz := 4) (bytes := 32) (news := [(.int _ _), (.int _ _), (.int _ _), (.int _ _)]) 0 rfl Try.underlying50 Try.type68 rfl rfl rfl rfl rfl hko rfl rfl (Src.slice Try.underlying50 (cels_own 10 rfl rfl) rfl (by simp [Value.oneCell']) (by simp)) (by omega) (fun A70 c71 E72 ho73 hn74 => ?_)
            have ho75 : OS A70 (g.kl.length + 1) c71 68 4 ((g.kl ++ [KL.mk 1 x.e ((g.i : Nat) : Int) 0]).flatMap encKL) E72 := os_snoc ho73 rfl
            clear ho73
            refine o_nil ?_
            refine d_val (i := 12) rfl (by kernel_rfl) (by kernel_rfl) (by kernel_rfl) rfl rfl rfl (y_nilCheck rfl) ?_
            refine d_val (i := 13) rfl (by kernel_rfl) (by kernel_rfl) (by kernel_rfl) rfl rfl rfl (y_field0 Try.runUnderlying184 rfl Try.sizeOf50 rfl rfl) ?_
            refine d_eff (k := 14) (n := 2) (m := 8) rfl (by kernel_rfl) rfl ?_
            refine o_store (v := (.slice _ _ _)) 1 rfl Try.sizeOf50 rfl rfl rfl rfl ?_
            refine o_nil ?_
            refine d_nil (n := 2) (m := 8) (by kernel_rfl) rfl ?_
            have hpk : pickC x.e ((g.i : Nat) : Int) (fc o.cs ((g.i : Nat) : Int)) (fc x.cs ((g.i : Nat) : Int)) (fc y.cs ((g.i : Nat) : Int)) = (some cx.vs, [KL.mk 1 x.e ((g.i : Nat) : Int) 0]) := by unfold fc pickC; rw [hfo, hfx, hfy]; first | (simp [e1]; done) | exact absurd rfl e1 | (simp only [Option.getD_some, Option.getD_none] at e1; simp [e1]; done)
            exact ⟨⟨true, cx.A, cx.n, cx.c, cx.vs, [], g.kl ++ [KL.mk 1 x.e ((g.i : Nat) : Int) 0], A70, c71, E72⟩, ⟨hX.2.2.2.ms orM_left, hX.1, by have := hX.2.2.1; exact this, by rw [hpk]; rfl, by rw [List.length_append]; exact ho75, by rw [hpk], by dsimp only; rw [List.length_append, List.length_singleton]; omega⟩, ⟨rfl, rfl, rfl, rfl, rfl, rfl, rfl, rfl, rfl, rfl, rfl, trivial⟩, (by rw [List.length_append]; exact sub_picks [9, 1, 0, 0, 0, 0, 0, 0, 0, 0] rfl)⟩
      · refine o_val rfl rfl rfl (y_move (v := (.bool _)) rfl) ?_
        refine o_val rfl rfl rfl (y_move (v := (.bool _)) rfl) ?_
        refine o_guard_yes rfl rfl ?_
        refine o_val rfl rfl rfl (y_move (v := (.bool _)) rfl) ?_
        refine o_val rfl rfl rfl (y_pick_t (v := (.bool _)) rfl rfl) ?_
        refine o_val rfl rfl rfl (y_move (v := (.bool _)) rfl) ?_
        refine o_guard_no rfl rfl rfl rfl rfl ?_
        refine o_val rfl rfl rfl (y_pick_f (v := (.bool _)) rfl rfl) ?_
        refine o_val rfl rfl rfl (y_assign (v := (.bool _)) rfl) ?_
        refine o_nil ?_
        refine s_else rfl ?_
        refine s_seq ?_
        refine s_region ?_
        refine o_val rfl rfl rfl (y_move (v := (.bool _)) rfl) ?_
        refine o_val rfl rfl rfl (y_move (v := (.bool _)) rfl) ?_
        refine o_val rfl rfl rfl (y_eql_bool Try.underlying4 rfl rfl) ?_
        refine o_val rfl rfl rfl (y_move (v := (.bool _)) rfl) ?_
        refine o_guard_yes rfl rfl ?_
        refine o_val rfl rfl rfl (y_move (v := (.slice _ _ _)) rfl) ?_
        refine o_guard_yes rfl rfl ?_
        refine o_val rfl rfl rfl (y_move (v := (.slice _ _ _)) rfl) ?_
        refine o_guard_yes rfl rfl ?_
        refine o_fn 0 (d := 86) rfl Try.call21 (EqualI_c _ _ _ _ hX.2.2.2.here.down hX.1 _ _ _ _ hY.2.2.2.here.down hY.1 (by have := hX.2.2.1; omega)) rfl ?_
        rintro _ _ ⟨rfl, rfl⟩
        refine o_val rfl rfl rfl (y_pick_t (v := (.bool _)) rfl rfl) ?_
        refine o_val rfl rfl rfl (y_assign (v := (.bool _)) rfl) ?_
        refine o_nil ?_
        refine s_forget [(0, (.pointer _)), (7, (.pointer _)), (8, (.pointer _)), (9, (.pointer _)), (10, (.pointer _)), (11, (.pointer _)), (12, (.int _ _)), (13, (.slice _ _ _)), (14, (.bool _)), (15, (.slice _ _ _)), (16, (.bool _)), (17, (.slice _ _ _)), (18, (.bool _)), (19, (.bool _)), (20, (.slice _ _ _)), (24, (.int _ _)), (25, (.int _ _)), (79, (.bool _))] ⟨rfl, rfl, rfl, rfl, rfl, rfl, rfl, rfl, rfl, rfl, rfl, rfl, rfl, rfl, rfl, rfl, rfl, rfl, trivial⟩ (fun _f => ?_)
        refine s_if rfl (fun h76 => ?_) (fun h77 => ?_)
        · have e1 := h76
          refine s_skip ?_
          have hpk : pickC x.e ((g.i : Nat) : Int) (fc o.cs ((g.i : Nat) : Int)) (fc x.cs ((g.i : Nat) : Int)) (fc y.cs ((g.i : Nat) : Int)) = (none, []) := by unfold fc pickC; rw [hfo, hfx, hfy]; first | (simp [e1]; done) | exact absurd rfl e1 | (simp only [Option.getD_some, Option.getD_none] at e1; simp [e1]; done)
          exact ⟨⟨false, (default : CR).A, (default : CR).n, (default : CR).c, (default : CR).vs, [], g.kl, g.A, g.C, g.cE⟩, ⟨hX.2.2.2.ms orM_left, hX.1, by have := hX.2.2.1; exact this, by rw [hpk]; rfl, hko, by rw [hpk]; exact (List.append_nil _).symm, by dsimp only; omega⟩, ⟨rfl, rfl, rfl, rfl, rfl, rfl, rfl, rfl, rfl, rfl, rfl, trivial⟩, (sub_picks [9, 3, 3, 0, 0, 0, 0, 0, 0, 0] rfl)⟩
        · have e1 := h77
          refine s_seq ?_
          refine s_region ?_
          refine o_val rfl rfl rfl (y_move (v := (.bool _)) rfl) ?_
          refine o_val rfl rfl rfl (y_move (v := (.bool _)) rfl) ?_
          refine o_val rfl rfl rfl (y_eql_bool Try.underlying4 rfl rfl) ?_
          refine o_val rfl rfl rfl (y_move (v := (.bool _)) rfl) ?_
          refine o_guard_no rfl rfl rfl rfl rfl ?_
          refine o_guard_no rfl rfl rfl rfl rfl ?_
          refine o_guard_no rfl rfl rfl rfl rfl ?_
          refine o_val rfl rfl rfl (y_pick_f (v := (.bool _)) rfl rfl) ?_
          refine o_val rfl rfl rfl (y_assign (v := (.bool _)) rfl) ?_
          refine o_nil ?_
          refine s_else rfl ?_
          refine s_seq ?_
          refine s_region ?_
          refine o_val rfl rfl rfl (y_move (v := (.bool _)) rfl) ?_
          refine o_val rfl rfl rfl (y_move (v := (.bool _)) rfl) ?_
          refine o_val rfl rfl rfl (y_eql_bool Try.underlying4 rfl rfl) ?_
          refine o_val rfl rfl rfl (y_move (v := (.bool _)) rfl) ?_
          refine o_guard_no rfl rfl rfl rfl rfl ?_
          refine o_guard_no rfl rfl rfl rfl rfl ?_
          refine o_guard_no rfl rfl rfl rfl rfl ?_
          refine o_val rfl rfl rfl (y_pick_f (v := (.bool _)) rfl rfl) ?_
          refine o_val rfl rfl rfl (y_assign (v := (.bool _)) rfl) ?_
          refine o_nil ?_
          refine s_forget [(0, (.pointer _)), (7, (.pointer _)), (8, (.pointer _)), (9, (.pointer _)), (10, (.pointer _)), (11, (.pointer _)), (12, (.int _ _)), (19, (.bool _)), (20, (.slice _ _ _)), (24, (.int _ _)), (25, (.int _ _)), (99, (.bool _))] ⟨rfl, rfl, rfl, rfl, rfl, rfl, rfl, rfl, rfl, rfl, rfl, rfl, trivial⟩ (fun _f => ?_)
          refine s_else rfl ?_
          refine s_pull 3 ?_
          refine s_pull 4 ?_
          refine s_drawn 2 (by kernel_rfl) ?_
          refine d_val (i := 0) rfl (by kernel_rfl) (by kernel_rfl) (by kernel_rfl) rfl rfl rfl (y_move (v := (.pointer _)) rfl) ?_
          refine d_val (i := 1) rfl (by kernel_rfl) (by kernel_rfl) (by kernel_rfl) rfl rfl rfl (y_move (v := (.pointer _)) rfl) ?_
          refine d_val (i := 2) rfl (by kernel_rfl) (by kernel_rfl) (by kernel_rfl) rfl rfl rfl (y_nilCheck rfl) ?_
          refine d_val (i := 3) rfl (by kernel_rfl) (by kernel_rfl) (by kernel_rfl) rfl rfl rfl (y_field0 Try.runUnderlying184 rfl Try.sizeOf50 rfl rfl) ?_
          refine d_val (i := 5) rfl (by kernel_rfl) (by kernel_rfl) (by kernel_rfl) rfl rfl rfl (y_field0 Try.runUnderlying136 rfl Try.sizeOf117 rfl rfl) ?_
          refine d_val (i := 6) rfl (by kernel_rfl) (by kernel_rfl) (by kernel_rfl) rfl rfl rfl (y_field0 Try.runUnderlying117 rfl Try.sizeOf3 rfl rfl) ?_
          refine d_val (i := 7) rfl (by kernel_rfl) (by kernel_rfl) (by kernel_rfl) rfl rfl rfl (y_load Try.isAgg3 rfl (cel_own 4 rfl rfl)) ?_
          refine d_val (i := 8) rfl (by kernel_rfl) (by kernel_rfl) (by kernel_rfl) rfl rfl rfl (y_move (v := (.int _ _)) rfl) ?_
          refine d_val (i := 9) rfl (by kernel_rfl) (by kernel_rfl) (by kernel_rfl) rfl rfl rfl (y_build (vs := [(0, .int _ _), (1, .int _ _), (2, .int _ _), (3, .int _ _)]) rfl (CompsM_k1 _ _ _ _)) ?_
          refine d_eff2 (k := 4) (k' := 10) (n := 2) (m := 8) rfl rfl (by kernel_rfl) rfl ?_ ?_
          · refine o_val rfl rfl rfl (y_load Try.isAgg50 rfl (cel_own 1 rfl rfl)) ?_
            refine o_nil ?_
            refine d_eff (k := 10) (n := 2) (m := 8) rfl (by kernel_rfl) rfl ?_
            refine o_lit (vs := [(0, .agg #[.int _ _, .int _ _, .int _ _, .int _ _])]) rfl rfl (CompsM_k2 _ _ _ _) (fun b78 => ?_)
            refine o_nil ?_
            refine d_eff (k := 11) (n := 2) (m := 8) rfl (by kernel_rfl) rfl ?_
            refine o_append (sz := 4) (bytes := 32) (news := [(.int _ _), (.int _ _), (.int _ _), (.int _ _)]) 0 rfl Try.underlying50 Try.type68 rfl rfl rfl rfl rfl hko rfl rfl (Src.slice Try.underlying50 (cels_own 10 rfl rfl) rfl (by simp [Value.oneCell']) (by simp)) (by omega) (fun A79 c80 E81 ho82 hn83 => ?_)
            have ho84 : OS A79 (g.kl.length + 1) c80 68 4 ((g.kl ++ [KL.mk 1 x.e ((g.i : Nat) : Int) 0]).flatMap encKL) E81 := os_snoc ho82 rfl
            clear ho82
            refine o_nil ?_
            refine d_val (i := 12) rfl (by kernel_rfl) (by kernel_rfl) (by kernel_rfl) rfl rfl rfl (y_nilCheck rfl) ?_
            refine d_val (i := 13) rfl (by kernel_rfl) (by kernel_rfl) (by kernel_rfl) rfl rfl rfl (y_field0 Try.runUnderlying184 rfl Try.sizeOf50 rfl rfl) ?_
            refine d_eff (k := 14) (n := 2) (m := 8) rfl (by kernel_rfl) rfl ?_
            refine o_store (v := (.slice _ _ _)) 1 rfl Try.sizeOf50 rfl rfl rfl rfl ?_
            refine o_nil ?_
            refine d_nil (n := 2) (m := 8) (by kernel_rfl) rfl ?_
            have hpk : pickC x.e ((g.i : Nat) : Int) (fc o.cs ((g.i : Nat) : Int)) (fc x.cs ((g.i : Nat) : Int)) (fc y.cs ((g.i : Nat) : Int)) = (none, [KL.mk 1 x.e ((g.i : Nat) : Int) 0]) := by unfold fc pickC; rw [hfo, hfx, hfy]; first | (simp [e1]; done) | exact absurd rfl e1 | (simp only [Option.getD_some, Option.getD_none] at e1; simp [e1]; done)
            exact ⟨⟨false, (default : CR).A, (default : CR).n, (default : CR).c, (default : CR).vs, [], g.kl ++ [KL.mk 1 x.e ((g.i : Nat) : Int) 0], A79, c80, E81⟩, ⟨hX.2.2.2.ms orM_left, hX.1, by have := hX.2.2.1; exact this, by rw [hpk]; rfl, by rw [List.length_append]; exact ho84, by rw [hpk], by dsimp only; rw [List.length_append, List.length_singleton]; omega⟩, ⟨rfl, rfl, rfl, rfl, rfl, rfl, rfl, rfl, rfl, rfl, rfl, trivial⟩, (by rw [List.length_append]; exact sub_picks [9, 1, 0, 0, 0, 0, 0, 0, 0, 0] rfl)⟩
          · refine o_lit (vs := [(0, .agg #[.int _ _, .int _ _, .int _ _, .int _ _])]) rfl rfl (CompsM_k2 _ _ _ _) (fun b85 => ?_)
            refine o_nil ?_
            refine d_now (i := 4) [] rfl (by kernel_rfl) (by kernel_rfl) (by kernel_rfl) rfl rfl rfl (y_load Try.isAgg50 rfl (cel_own 1 rfl rfl)) trivial ?_
            refine d_eff (k := 11) (n := 2) (m := 8) rfl (by kernel_rfl) rfl ?_
            refine o_append (sz := 4) (bytes := 32) (news := [(.int _ _), (.int _ _), (.int _ _), (.int _ _)]) 0 rfl Try.underlying50 Try.type68 rfl rfl rfl rfl rfl hko rfl rfl (Src.slice Try.underlying50 (cels_own 10 rfl rfl) rfl (by simp [Value.oneCell']) (by simp)) (by omega) (fun A86 c87 E88 ho89 hn90 => ?_)
            have ho91 : OS A86 (g.kl.length + 1) c87 68 4 ((g.kl ++ [KL.mk 1 x.e ((g.i : Nat) : Int) 0]).flatMap encKL) E88 := os_snoc ho89 rfl
            clear ho89
            refine o_nil ?_
            refine d_val (i := 12) rfl (by kernel_rfl) (by kernel_rfl) (by kernel_rfl) rfl rfl rfl (y_nilCheck rfl) ?_
            refine d_val (i := 13) rfl (by kernel_rfl) (by kernel_rfl) (by kernel_rfl) rfl rfl rfl (y_field0 Try.runUnderlying184 rfl Try.sizeOf50 rfl rfl) ?_
            refine d_eff (k := 14) (n := 2) (m := 8) rfl (by kernel_rfl) rfl ?_
            refine o_store (v := (.slice _ _ _)) 1 rfl Try.sizeOf50 rfl rfl rfl rfl ?_
            refine o_nil ?_
            refine d_nil (n := 2) (m := 8) (by kernel_rfl) rfl ?_
            have hpk : pickC x.e ((g.i : Nat) : Int) (fc o.cs ((g.i : Nat) : Int)) (fc x.cs ((g.i : Nat) : Int)) (fc y.cs ((g.i : Nat) : Int)) = (none, [KL.mk 1 x.e ((g.i : Nat) : Int) 0]) := by unfold fc pickC; rw [hfo, hfx, hfy]; first | (simp [e1]; done) | exact absurd rfl e1 | (simp only [Option.getD_some, Option.getD_none] at e1; simp [e1]; done)
            exact ⟨⟨false, (default : CR).A, (default : CR).n, (default : CR).c, (default : CR).vs, [], g.kl ++ [KL.mk 1 x.e ((g.i : Nat) : Int) 0], A86, c87, E88⟩, ⟨hX.2.2.2.ms orM_left, hX.1, by have := hX.2.2.1; exact this, by rw [hpk]; rfl, by rw [List.length_append]; exact ho91, by rw [hpk], by dsimp only; rw [List.length_append, List.length_singleton]; omega⟩, ⟨rfl, rfl, rfl, rfl, rfl, rfl, rfl, rfl, rfl, rfl, rfl, trivial⟩, (by rw [List.length_append]; exact sub_picks [9, 1, 0, 0, 0, 0, 0, 0, 0, 0] rfl)⟩
      · refine o_val rfl rfl rfl (y_move (v := (.bool _)) rfl) ?_
        refine o_val rfl rfl rfl (y_move (v := (.bool _)) rfl) ?_
        refine o_guard_yes rfl rfl ?_
        refine o_val rfl rfl rfl (y_move (v := (.bool _)) rfl) ?_
        refine o_val rfl rfl rfl (y_pick_t (v := (.bool _)) rfl rfl) ?_
        refine o_val rfl rfl rfl (y_move (v := (.bool _)) rfl) ?_
        refine o_guard_no rfl rfl rfl rfl rfl ?_
        refine o_val rfl rfl rfl (y_pick_f (v := (.bool _)) rfl rfl) ?_
        refine o_val rfl rfl rfl (y_assign (v := (.bool _)) rfl) ?_
        refine o_nil ?_
        refine s_else rfl ?_
        refine s_seq ?_
        refine s_region ?_
        refine o_val rfl rfl rfl (y_move (v := (.bool _)) rfl) ?_
        refine o_val rfl rfl rfl (y_move (v := (.bool _)) rfl) ?_
        refine o_val rfl rfl rfl (y_eql_bool Try.underlying4 rfl rfl) ?_
        refine o_val rfl rfl rfl (y_move (v := (.bool _)) rfl) ?_
        refine o_guard_no rfl rfl rfl rfl rfl ?_
        refine o_guard_no rfl rfl rfl rfl rfl ?_
        refine o_guard_no rfl rfl rfl rfl rfl ?_
        refine o_val rfl rfl rfl (y_pick_f (v := (.bool _)) rfl rfl) ?_
        refine o_val rfl rfl rfl (y_assign (v := (.bool _)) rfl) ?_
        refine o_nil ?_
        refine s_forget [(0, (.pointer _)), (7, (.pointer _)), (8, (.pointer _)), (9, (.pointer _)), (10, (.pointer _)), (11, (.pointer _)), (12, (.int _ _)), (13, (.slice _ _ _)), (14, (.bool _)), (15, (.slice _ _ _)), (16, (.bool _)), (17, (.slice _ _ _)), (18, (.bool _)), (19, (.bool _)), (20, (.slice _ _ _)), (24, (.int _ _)), (25, (.int _ _)), (79, (.bool _))] ⟨rfl, rfl, rfl, rfl, rfl, rfl, rfl, rfl, rfl, rfl, rfl, rfl, rfl, rfl, rfl, rfl, rfl, rfl, trivial⟩ (fun _f => ?_)
        refine s_else rfl ?_
        refine s_seq ?_
        refine s_region ?_
        refine o_val rfl rfl rfl (y_move (v := (.bool _)) rfl) ?_
        refine o_val rfl rfl rfl (y_move (v := (.bool _)) rfl) ?_
        refine o_val rfl rfl rfl (y_eql_bool Try.underlying4 rfl rfl) ?_
        refine o_val rfl rfl rfl (y_move (v := (.bool _)) rfl) ?_
        refine o_guard_no rfl rfl rfl rfl rfl ?_
        refine o_guard_no rfl rfl rfl rfl rfl ?_
        refine o_guard_no rfl rfl rfl rfl rfl ?_
        refine o_val rfl rfl rfl (y_pick_f (v := (.bool _)) rfl rfl) ?_
        refine o_val rfl rfl rfl (y_assign (v := (.bool _)) rfl) ?_
        refine o_nil ?_
        refine s_else rfl ?_
        refine s_seq ?_
        refine s_region ?_
        refine o_val rfl rfl rfl (y_move (v := (.bool _)) rfl) ?_
        refine o_val rfl rfl rfl (y_move (v := (.bool _)) rfl) ?_
        refine o_val rfl rfl rfl (y_eql_bool Try.underlying4 rfl rfl) ?_
        refine o_val rfl rfl rfl (y_move (v := (.bool _)) rfl) ?_
        refine o_guard_yes rfl rfl ?_
        refine o_val rfl rfl rfl (y_move (v := (.slice _ _ _)) rfl) ?_
        refine o_guard_yes rfl rfl ?_
        refine o_val rfl rfl rfl (y_move (v := (.slice _ _ _)) rfl) ?_
        refine o_guard_yes rfl rfl ?_
        refine o_fn 0 (d := 106) rfl Try.call21 (EqualI_c _ _ _ _ hY.2.2.2.here.down hY.1 _ _ _ _ hO.2.2.2.here.down hO.1 (by have := hY.2.2.1; omega)) rfl ?_
        rintro _ _ ⟨rfl, rfl⟩
        refine o_val rfl rfl rfl (y_pick_t (v := (.bool _)) rfl rfl) ?_
        refine o_val rfl rfl rfl (y_assign (v := (.bool _)) rfl) ?_
        refine o_nil ?_
        refine s_forget [(0, (.pointer _)), (7, (.pointer _)), (8, (.pointer _)), (9, (.pointer _)), (10, (.pointer _)), (11, (.pointer _)), (12, (.int _ _)), (19, (.bool _)), (20, (.slice _ _ _)), (24, (.int _ _)), (25, (.int _ _)), (99, (.bool _))] ⟨rfl, rfl, rfl, rfl, rfl, rfl, rfl, rfl, rfl, rfl, rfl, rfl, trivial⟩ (fun _f => ?_)
        refine s_if rfl (fun h92 => ?_) (fun h93 => ?_)
        · have e3 := h92
          refine s_skip ?_
          have hpk : pickC x.e ((g.i : Nat) : Int) (fc o.cs ((g.i : Nat) : Int)) (fc x.cs ((g.i : Nat) : Int)) (fc y.cs ((g.i : Nat) : Int)) = (none, []) := by unfold fc pickC; rw [hfo, hfx, hfy]; first | (simp [e3]; done) | exact absurd rfl e3 | (simp only [Option.getD_some, Option.getD_none] at e3; simp [e3]; done)
          exact ⟨⟨false, (default : CR).A, (default : CR).n, (default : CR).c, (default : CR).vs, [], g.kl, g.A, g.C, g.cE⟩, ⟨hX.2.2.2.ms orM_left, hX.1, by have := hX.2.2.1; exact this, by rw [hpk]; rfl, hko, by rw [hpk]; exact (List.append_nil _).symm, by dsimp only; omega⟩, ⟨rfl, rfl, rfl, rfl, rfl, rfl, rfl, rfl, rfl, rfl, rfl, trivial⟩, (sub_picks [9, 3, 3, 0, 0, 0, 0, 0, 0, 0] rfl)⟩
        · have e3 := h93
          refine s_pull 3 ?_
          refine s_pull 4 ?_
          refine s_drawn 2 (by kernel_rfl) ?_
          refine d_val (i := 0) rfl (by kernel_rfl) (by kernel_rfl) (by kernel_rfl) rfl rfl rfl (y_move (v := (.pointer _)) rfl) ?_
          refine d_val (i := 1) rfl (by kernel_rfl) (by kernel_rfl) (by kernel_rfl) rfl rfl rfl (y_move (v := (.pointer _)) rfl) ?_
          refine d_val (i := 2) rfl (by kernel_rfl) (by kernel_rfl) (by kernel_rfl) rfl rfl rfl (y_nilCheck rfl) ?_
          refine d_val (i := 3) rfl (by kernel_rfl) (by kernel_rfl) (by kernel_rfl) rfl rfl rfl (y_field0 Try.runUnderlying184 rfl Try.sizeOf50 rfl rfl) ?_
          refine d_val (i := 5) rfl (by kernel_rfl) (by kernel_rfl) (by kernel_rfl) rfl rfl rfl (y_field0 Try.runUnderlying136 rfl Try.sizeOf117 rfl rfl) ?_
          refine d_val (i := 6) rfl (by kernel_rfl) (by kernel_rfl) (by kernel_rfl) rfl rfl rfl (y_field0 Try.runUnderlying117 rfl Try.sizeOf3 rfl rfl) ?_
          refine d_val (i := 7) rfl (by kernel_rfl) (by kernel_rfl) (by kernel_rfl) rfl rfl rfl (y_load Try.isAgg3 rfl (cel_own 4 rfl rfl)) ?_
          refine d_val (i := 8) rfl (by kernel_rfl) (by kernel_rfl) (by kernel_rfl) rfl rfl rfl (y_move (v := (.int _ _)) rfl) ?_
          refine d_val (i := 9) rfl (by kernel_rfl) (by kernel_rfl) (by kernel_rfl) rfl rfl rfl (y_build (vs := [(0, .int _ _), (1, .int _ _), (2, .int _ _), (3, .int _ _)]) rfl (CompsM_k1 _ _ _ _)) ?_
          refine d_eff2 (k := 4) (k' := 10) (n := 2) (m := 8) rfl rfl (by kernel_rfl) rfl ?_ ?_
          · refine o_val rfl rfl rfl (y_load Try.isAgg50 rfl (cel_own 1 rfl rfl)) ?_
            refine o_nil ?_
            refine d_eff (k := 10) (n := 2) (m := 8) rfl (by kernel_rfl) rfl ?_
            refine o_lit (vs := [(0, .agg #[.int _ _, .int _ _, .int _ _, .int _ _])]) rfl rfl (CompsM_k2 _ _ _ _) (fun b94 => ?_)
            refine o_nil ?_
            refine d_eff (k := 11) (n := 2) (m := 8) rfl (by kernel_rfl) rfl ?_
            refine o_append (sz := 4) (bytes := 32) (news := [(.int _ _), (.int _ _), (.int _ _), (.int _ _)]) 0 rfl Try.underlying50 Try.type68 rfl rfl rfl rfl rfl hko rfl rfl (Src.slice Try.underlying50 (cels_own 10 rfl rfl) rfl (by simp [Value.oneCell']) (by simp)) (by omega) (fun A95 c96 E97 ho98 hn99 => ?_)
            have ho100 : OS A95 (g.kl.length + 1) c96 68 4 ((g.kl ++ [KL.mk 1 x.e ((g.i : Nat) : Int) 0]).flatMap encKL) E97 := os_snoc ho98 rfl
            clear ho98
            refine o_nil ?_
            refine d_val (i := 12) rfl (by kernel_rfl) (by kernel_rfl) (by kernel_rfl) rfl rfl rfl (y_nilCheck rfl) ?_
            refine d_val (i := 13) rfl (by kernel_rfl) (by kernel_rfl) (by kernel_rfl) rfl rfl rfl (y_field0 Try.runUnderlying184 rfl Try.sizeOf50 rfl rfl) ?_
            refine d_eff (k := 14) (n := 2) (m := 8) rfl (by kernel_rfl) rfl ?_
            refine o_store (v := (.slice _ _ _)) 1 rfl Try.sizeOf50 rfl rfl rfl rfl ?_
            refine o_nil ?_
            refine d_nil (n := 2) (m := 8) (by kernel_rfl) rfl ?_
            have hpk : pickC x.e ((g.i : Nat) : Int) (fc o.cs ((g.i : Nat) : Int)) (fc x.cs ((g.i : Nat) : Int)) (fc y.cs ((g.i : Nat) : Int)) = (none, [KL.mk 1 x.e ((g.i : Nat) : Int) 0]) := by unfold fc pickC; rw [hfo, hfx, hfy]; first | (simp [e3]; done) | exact absurd rfl e3 | (simp only [Option.getD_some, Option.getD_none] at e3; simp [e3]; done)
            exact ⟨⟨false, (default : CR).A, (default : CR).n, (default : CR).c, (default : CR).vs, [], g.kl ++ [KL.mk 1 x.e ((g.i : Nat) : Int) 0], A95, c96, E97⟩, ⟨hX.2.2.2.ms orM_left, hX.1, by have := hX.2.2.1; exact this, by rw [hpk]; rfl, by rw [List.length_append]; exact ho100, by rw [hpk], by dsimp only; rw [List.length_append, List.length_singleton]; omega⟩, ⟨rfl, rfl, rfl, rfl, rfl, rfl, rfl, rfl, rfl, rfl, rfl, trivial⟩, (by rw [List.length_append]; exact sub_picks [9, 1, 0, 0, 0, 0, 0, 0, 0, 0] rfl)⟩
          · refine o_lit (vs := [(0, .agg #[.int _ _, .int _ _, .int _ _, .int _ _])]) rfl rfl (CompsM_k2 _ _ _ _) (fun b101 => ?_)
            refine o_nil ?_
            refine d_now (i := 4) [] rfl (by kernel_rfl) (by kernel_rfl) (by kernel_rfl) rfl rfl rfl (y_load Try.isAgg50 rfl (cel_own 1 rfl rfl)) trivial ?_
            refine d_eff (k := 11) (n := 2) (m := 8) rfl (by kernel_rfl) rfl ?_
            refine o_append (sz := 4) (bytes := 32) (news := [(.int _ _), (.int _ _), (.int _ _), (.int _ _)]) 0 rfl Try.underlying50 Try.type68 rfl rfl rfl rfl rfl hko rfl rfl (Src.slice Try.underlying50 (cels_own 10 rfl rfl) rfl (by simp [Value.oneCell']) (by simp)) (by omega) (fun A102 c103 E104 ho105 hn106 => ?_)
            have ho107 : OS A102 (g.kl.length + 1) c103 68 4 ((g.kl ++ [KL.mk 1 x.e ((g.i : Nat) : Int) 0]).flatMap encKL) E104 := os_snoc ho105 rfl
            clear ho105
            refine o_nil ?_
            refine d_val (i := 12) rfl (by kernel_rfl) (by kernel_rfl) (by kernel_rfl) rfl rfl rfl (y_nilCheck rfl) ?_
            refine d_val (i := 13) rfl (by kernel_rfl) (by kernel_rfl) (by kernel_rfl) rfl rfl rfl (y_field0 Try.runUnderlying184 rfl Try.sizeOf50 rfl rfl) ?_
            refine d_eff (k := 14) (n := 2) (m := 8) rfl (by kernel_rfl) rfl ?_
            refine o_store (v := (.slice _ _ _)) 1 rfl Try.sizeOf50 rfl rfl rfl rfl ?_
            refine o_nil ?_
            refine d_nil (n := 2) (m := 8) (by kernel_rfl) rfl ?_
            have hpk : pickC x.e ((g.i : Nat) : Int) (fc o.cs ((g.i : Nat) : Int)) (fc x.cs ((g.i : Nat) : Int)) (fc y.cs ((g.i : Nat) : Int)) = (none, [KL.mk 1 x.e ((g.i : Nat) : Int) 0]) := by unfold fc pickC; rw [hfo, hfx, hfy]; first | (simp [e3]; done) | exact absurd rfl e3 | (simp only [Option.getD_some, Option.getD_none] at e3; simp [e3]; done)
            exact ⟨⟨false, (default : CR).A, (default : CR).n, (default : CR).c, (default : CR).vs, [], g.kl ++ [KL.mk 1 x.e ((g.i : Nat) : Int) 0], A102, c103, E104⟩, ⟨hX.2.2.2.ms orM_left, hX.1, by have := hX.2.2.1; exact this, by rw [hpk]; rfl, by rw [List.length_append]; exact ho107, by rw [hpk], by dsimp only; rw [List.length_append, List.length_singleton]; omega⟩, ⟨rfl, rfl, rfl, rfl, rfl, rfl, rfl, rfl, rfl, rfl, rfl, trivial⟩, (by rw [List.length_append]; exact sub_picks [9, 1, 0, 0, 0, 0, 0, 0, 0, 0] rfl)⟩
      · refine o_val rfl rfl rfl (y_move (v := (.bool _)) rfl) ?_
        refine o_val rfl rfl rfl (y_move (v := (.bool _)) rfl) ?_
        refine o_guard_yes rfl rfl ?_
        refine o_val rfl rfl rfl (y_move (v := (.bool _)) rfl) ?_
        refine o_val rfl rfl rfl (y_pick_t (v := (.bool _)) rfl rfl) ?_
        refine o_val rfl rfl rfl (y_move (v := (.bool _)) rfl) ?_
        refine o_guard_yes rfl rfl ?_
        refine o_val rfl rfl rfl (y_move (v := (.bool _)) rfl) ?_
        refine o_val rfl rfl rfl (y_pick_t (v := (.bool _)) rfl rfl) ?_
        refine o_val rfl rfl rfl (y_assign (v := (.bool _)) rfl) ?_
        refine o_nil ?_
        refine s_else rfl ?_
        refine s_seq ?_
        refine s_region ?_
        refine o_val rfl rfl rfl (y_move (v := (.bool _)) rfl) ?_
        refine o_val rfl rfl rfl (y_move (v := (.bool _)) rfl) ?_
        refine o_val rfl rfl rfl (y_eql_bool Try.underlying4 rfl rfl) ?_
        refine o_val rfl rfl rfl (y_move (v := (.bool _)) rfl) ?_
        refine o_guard_no rfl rfl rfl rfl rfl ?_
        refine o_guard_no rfl rfl rfl rfl rfl ?_
        refine o_guard_no rfl rfl rfl rfl rfl ?_
        refine o_val rfl rfl rfl (y_pick_f (v := (.bool _)) rfl rfl) ?_
        refine o_val rfl rfl rfl (y_assign (v := (.bool _)) rfl) ?_
        refine o_nil ?_
        refine s_forget [(0, (.pointer _)), (7, (.pointer _)), (8, (.pointer _)), (9, (.pointer _)), (10, (.pointer _)), (11, (.pointer _)), (12, (.int _ _)), (13, (.slice _ _ _)), (14, (.bool _)), (15, (.slice _ _ _)), (16, (.bool _)), (17, (.slice _ _ _)), (18, (.bool _)), (19, (.bool _)), (20, (.slice _ _ _)), (24, (.int _ _)), (25, (.int _ _)), (79, (.bool _))] ⟨rfl, rfl, rfl, rfl, rfl, rfl, rfl, rfl, rfl, rfl, rfl, rfl, rfl, rfl, rfl, rfl, rfl, rfl, trivial⟩ (fun _f => ?_)
        refine s_else rfl ?_
        refine s_seq ?_
        refine s_region ?_
        refine o_val rfl rfl rfl (y_move (v := (.bool _)) rfl) ?_
        refine o_val rfl rfl rfl (y_move (v := (.bool _)) rfl) ?_
        refine o_val rfl rfl rfl (y_eql_bool Try.underlying4 rfl rfl) ?_
        refine o_val rfl rfl rfl (y_move (v := (.bool _)) rfl) ?_
        refine o_guard_yes rfl rfl ?_
        refine o_val rfl rfl rfl (y_move (v := (.slice _ _ _)) rfl) ?_
        refine o_guard_yes rfl rfl ?_
        refine o_val rfl rfl rfl (y_move (v := (.slice _ _ _)) rfl) ?_
        refine o_guard_yes rfl rfl ?_
        refine o_fn 0 (d := 95) rfl Try.call21 (EqualI_c _ _ _ _ hX.2.2.2.here.down hX.1 _ _ _ _ hO.2.2.2.here.down hO.1 (by have := hX.2.2.1; omega)) rfl ?_
        rintro _ _ ⟨rfl, rfl⟩
        refine o_val rfl rfl rfl (y_pick_t (v := (.bool _)) rfl rfl) ?_
        refine o_val rfl rfl rfl (y_assign (v := (.bool _)) rfl) ?_
        refine o_nil ?_
        refine s_if rfl (fun h108 => ?_) (fun h109 => ?_)
        · have e2 := h108
          refine s_region ?_
          refine o_val rfl rfl rfl (y_move (v := (.bool _)) rfl) ?_
          refine o_val rfl rfl rfl (y_move (v := (.slice _ _ _)) rfl) ?_
          refine o_val rfl rfl rfl (y_assign (v := (.bool _)) rfl) ?_
          refine o_val rfl rfl rfl (y_assign (v := (.slice _ _ _)) rfl) ?_
          refine o_nil ?_
          have hpk : pickC x.e ((g.i : Nat) : Int) (fc o.cs ((g.i : Nat) : Int)) (fc x.cs ((g.i : Nat) : Int)) (fc y.cs ((g.i : Nat) : Int)) = (none, []) := by unfold fc pickC; rw [hfo, hfx, hfy]; first | (simp [e2]; done) | exact absurd rfl e2 | (simp only [Option.getD_some, Option.getD_none] at e2; simp [e2]; done)
          exact ⟨⟨false, (default : CR).A, (default : CR).n, (default : CR).c, (default : CR).vs, [], g.kl, g.A, g.C, g.cE⟩, ⟨hY.2.2.2.ms orM_left, hY.1, by have := hY.2.2.1; exact this, by rw [hpk]; rfl, hko, by rw [hpk]; exact (List.append_nil _).symm, by dsimp only; omega⟩, ⟨rfl, rfl, rfl, rfl, rfl, rfl, rfl, rfl, rfl, rfl, rfl, trivial⟩, (sub_picks [9, 3, 3, 0, 0, 0, 0, 0, 0, 0] rfl)⟩
        · have e2 := h109
          refine s_seq ?_
          refine s_region ?_
          refine o_val rfl rfl rfl (y_move (v := (.bool _)) rfl) ?_
          refine o_val rfl rfl rfl (y_move (v := (.bool _)) rfl) ?_
          refine o_val rfl rfl rfl (y_eql_bool Try.underlying4 rfl rfl) ?_
          refine o_val rfl rfl rfl (y_move (v := (.bool _)) rfl) ?_
          refine o_guard_no rfl rfl rfl rfl rfl ?_
          refine o_guard_no rfl rfl rfl rfl rfl ?_
          refine o_guard_no rfl rfl rfl rfl rfl ?_
          refine o_val rfl rfl rfl (y_pick_f (v := (.bool _)) rfl rfl) ?_
          refine o_val rfl rfl rfl (y_assign (v := (.bool _)) rfl) ?_
          refine o_nil ?_
          refine s_forget [(0, (.pointer _)), (7, (.pointer _)), (8, (.pointer _)), (9, (.pointer _)), (10, (.pointer _)), (11, (.pointer _)), (12, (.int _ _)), (19, (.bool _)), (20, (.slice _ _ _)), (24, (.int _ _)), (25, (.int _ _)), (99, (.bool _))] ⟨rfl, rfl, rfl, rfl, rfl, rfl, rfl, rfl, rfl, rfl, rfl, rfl, trivial⟩ (fun _f => ?_)
          refine s_else rfl ?_
          refine s_pull 3 ?_
          refine s_pull 4 ?_
          refine s_drawn 2 (by kernel_rfl) ?_
          refine d_val (i := 0) rfl (by kernel_rfl) (by kernel_rfl) (by kernel_rfl) rfl rfl rfl (y_move (v := (.pointer _)) rfl) ?_
          refine d_val (i := 1) rfl (by kernel_rfl) (by kernel_rfl) (by kernel_rfl) rfl rfl rfl (y_move (v := (.pointer _)) rfl) ?_
          refine d_val (i := 2) rfl (by kernel_rfl) (by kernel_rfl) (by kernel_rfl) rfl rfl rfl (y_nilCheck rfl) ?_
          refine d_val (i := 3) rfl (by kernel_rfl) (by kernel_rfl) (by kernel_rfl) rfl rfl rfl (y_field0 Try.runUnderlying184 rfl Try.sizeOf50 rfl rfl) ?_
          refine d_val (i := 5) rfl (by kernel_rfl) (by kernel_rfl) (by kernel_rfl) rfl rfl rfl (y_field0 Try.runUnderlying136 rfl Try.sizeOf117 rfl rfl) ?_
          refine d_val (i := 6) rfl (by kernel_rfl) (by kernel_rfl) (by kernel_rfl) rfl rfl rfl (y_field0 Try.runUnderlying117 rfl Try.sizeOf3 rfl rfl) ?_
          refine d_val (i := 7) rfl (by kernel_rfl) (by kernel_rfl) (by kernel_rfl) rfl rfl rfl (y_load Try.isAgg3 rfl (cel_own 4 rfl rfl)) ?_
          refine d_val (i := 8) rfl (by kernel_rfl) (by kernel_rfl) (by kernel_rfl) rfl rfl rfl (y_move (v := (.int _ _)) rfl) ?_
          refine d_val (i := 9) rfl (by kernel_rfl) (by kernel_rfl) (by kernel_rfl) rfl rfl rfl (y_build (vs := [(0, .int _ _), (1, .int _ _), (2, .int _ _), (3, .int _ _)]) rfl (CompsM_k1 _ _ _ _)) ?_
          refine d_eff2 (k := 4) (k' := 10) (n := 2) (m := 8) rfl rfl (by kernel_rfl) rfl ?_ ?_
          · refine o_val rfl rfl rfl (y_load Try.isAgg50 rfl (cel_own 1 rfl rfl)) ?_
            refine o_nil ?_
            refine d_eff (k := 10) (n := 2) (m := 8) rfl (by kernel_rfl) rfl ?_
            refine o_lit (vs := [(0, .agg #[.int _ _, .int _ _, .int _ _, .int _ _])]) rfl rfl (CompsM_k2 _ _ _ _) (fun b110 => ?_)
            refine o_nil ?_
            refine d_eff (k := 11) (n := 2) (m := 8) rfl (by kernel_rfl) rfl ?_
            refine o_append (sz := 4) (bytes := 32) (news := [(.int _ _), (.int _ _), (.int _ _), (.int _ _)]) 0 rfl Try.underlying50 Try.type68 rfl rfl rfl rfl rfl hko rfl rfl (Src.slice Try.underlying50 (cels_own 10 rfl rfl) rfl (by simp [Value.oneCell']) (by simp)) (by omega) (fun A111 c112 E113 ho114 hn115 => ?_)
            have ho116 : OS A111 (g.kl.length + 1) c112 68 4 ((g.kl ++ [KL.mk 1 x.e ((g.i : Nat) : Int) 0]).flatMap encKL) E113 := os_snoc ho114 rfl
            clear ho114
            refine o_nil ?_
            refine d_val (i := 12) rfl (by kernel_rfl) (by kernel_rfl) (by kernel_rfl) rfl rfl rfl (y_nilCheck rfl) ?_
            refine d_val (i := 13) rfl (by kernel_rfl) (by kernel_rfl) (by kernel_rfl) rfl rfl rfl (y_field0 Try.runUnderlying184 rfl Try.sizeOf50 rfl rfl) ?_
            refine d_eff (k := 14) (n := 2) (m := 8) rfl (by kernel_rfl) rfl ?_
            refine o_store (v := (.slice _ _ _)) 1 rfl Try.sizeOf50 rfl rfl rfl rfl ?_
            refine o_nil ?_
            refine d_nil (n := 2) (m := 8) (by kernel_rfl) rfl ?_
            have hpk : pickC x.e ((g.i : Nat) : Int) (fc o.cs ((g.i : Nat) : Int)) (fc x.cs ((g.i : Nat) : Int)) (fc y.cs ((g.i : Nat) : Int)) = (some cx.vs, [KL.mk 1 x.e ((g.i : Nat) : Int) 0]) := by unfold fc pickC; rw [hfo, hfx, hfy]; first | (simp [e2]; done) | exact absurd rfl e2 | (simp only [Option.getD_some, Option.getD_none] at e2; simp [e2]; done)
            exact ⟨⟨true, cx.A, cx.n, cx.c, cx.vs, [], g.kl ++ [KL.mk 1 x.e ((g.i : Nat) : Int) 0], A111, c112, E113⟩, ⟨hX.2.2.2.ms orM_left, hX.1, by have := hX.2.2.1; exact this, by rw [hpk]; rfl, by rw [List.length_append]; exact ho116, by rw [hpk], by dsimp only; rw [List.length_append, List.length_singleton]; omega⟩, ⟨rfl, rfl, rfl, rfl, rfl, rfl, rfl, rfl, rfl, rfl, rfl, trivial⟩, (by rw [List.length_append]; exact sub_picks [9, 1, 0, 0, 0, 0, 0, 0, 0, 0] rfl)⟩
          · refine o_lit (vs := [(0, .agg #[.int _ _, .int _ _, .int _ _, .int _ _])]) rfl rfl (CompsM_k2 _ _ _ _) (fun b117 => ?_)
            refine o_nil ?_
            refine d_now (i := 4) [] rfl (by kernel_rfl) (by kernel_rfl) (by kernel_rfl) rfl rfl rfl (y_load Try.isAgg50 rfl (cel_own 1 rfl rfl)) trivial ?_
            refine d_eff (k := 11) (n := 2) (m := 8) rfl (by kernel_rfl) rfl ?_
            refine o_append (sz := 4) (bytes := 32) (news := [(.int _ _), (.int _ _), (.int _ _), (.int _ _)]) 0 rfl Try.underlying50 Try.type68 rfl rfl rfl rfl rfl hko rfl rfl (Src.slice Try.underlying50 (cels_own 10 rfl rfl) rfl (by simp [Value.oneCell']) (by simp)) (by omega) (fun A118 c119 E120 ho121 hn122 => ?_)
            have ho123 : OS A118 (g.kl.length + 1) c119 68 4 ((g.kl ++ [KL.mk 1 x.e ((g.i : Nat) : Int) 0]).flatMap encKL) E120 := os_snoc ho121 rfl
            clear ho121
            refine o_nil ?_
            refine d_val (i := 12) rfl (by kernel_rfl) (by kernel_rfl) (by kernel_rfl) rfl rfl rfl (y_nilCheck rfl) ?_
            refine d_val (i := 13) rfl (by kernel_rfl) (by kernel_rfl) (by kernel_rfl) rfl rfl rfl (y_field0 Try.runUnderlying184 rfl Try.sizeOf50 rfl rfl) ?_
            refine d_eff (k := 14) (n := 2) (m := 8) rfl (by kernel_rfl) rfl ?_
            refine o_store (v := (.slice _ _ _)) 1 rfl Try.sizeOf50 rfl rfl rfl rfl ?_
            refine o_nil ?_
            refine d_nil (n := 2) (m := 8) (by kernel_rfl) rfl ?_
            have hpk : pickC x.e ((g.i : Nat) : Int) (fc o.cs ((g.i : Nat) : Int)) (fc x.cs ((g.i : Nat) : Int)) (fc y.cs ((g.i : Nat) : Int)) = (some cx.vs, [KL.mk 1 x.e ((g.i : Nat) : Int) 0]) := by unfold fc pickC; rw [hfo, hfx, hfy]; first | (simp [e2]; done) | exact absurd rfl e2 | (simp only [Option.getD_some, Option.getD_none] at e2; simp [e2]; done)
            exact ⟨⟨true, cx.A, cx.n, cx.c, cx.vs, [], g.kl ++ [KL.mk 1 x.e ((g.i : Nat) : Int) 0], A118, c119, E120⟩, ⟨hX.2.2.2.ms orM_left, hX.1, by have := hX.2.2.1; exact this, by rw [hpk]; rfl, by rw [List.length_append]; exact ho123, by rw [hpk], by dsimp only; rw [List.length_append, List.length_singleton]; omega⟩, ⟨rfl, rfl, rfl, rfl, rfl, rfl, rfl, rfl, rfl, rfl, rfl, trivial⟩, (by rw [List.length_append]; exact sub_picks [9, 1, 0, 0, 0, 0, 0, 0, 0, 0] rfl)⟩
      · refine o_val rfl rfl rfl (y_move (v := (.bool _)) rfl) ?_
        refine o_val rfl rfl rfl (y_move (v := (.bool _)) rfl) ?_
        refine o_guard_yes rfl rfl ?_
        refine o_val rfl rfl rfl (y_move (v := (.bool _)) rfl) ?_
        refine o_val rfl rfl rfl (y_pick_t (v := (.bool _)) rfl rfl) ?_
        refine o_val rfl rfl rfl (y_move (v := (.bool _)) rfl) ?_
        refine o_guard_yes rfl rfl ?_
        refine o_val rfl rfl rfl (y_move (v := (.bool _)) rfl) ?_
        refine o_val rfl rfl rfl (y_pick_t (v := (.bool _)) rfl rfl) ?_
        refine o_val rfl rfl rfl (y_assign (v := (.bool _)) rfl) ?_
        refine o_nil ?_
        refine s_then rfl ?_
        refine s_region ?_
        have hO : COK V co := hO
        have hX : COK V cx := hX
        have hY : COK V cy := hY
        refine o_val rfl rfl rfl (y_move (v := (.pointer _)) rfl) ?_
        refine o_val rfl rfl rfl (y_field0 Try.runUnderlying136 rfl Try.sizeOf117 rfl rfl) ?_
        refine o_val rfl rfl rfl (y_field0 Try.runUnderlying117 rfl Try.sizeOf3 rfl rfl) ?_
        refine o_val rfl rfl rfl (y_load Try.isAgg3 rfl (cel_own 6 rfl rfl)) ?_
        refine o_val rfl rfl rfl (y_move (v := (.int _ _)) rfl) ?_
        refine o_val rfl rfl rfl (y_move (v := (.slice _ _ _)) rfl) ?_
        refine o_val rfl rfl rfl (y_move (v := (.slice _ _ _)) rfl) ?_
        refine o_val rfl rfl rfl (y_move (v := (.slice _ _ _)) rfl) ?_
        refine o_pull 4 ?_
        refine o_pull 4 ?_
        refine o_fn 2 (d := 78) rfl Try.call199 (ValsM_c mb g.A g.C g.cE g.kl hko x.e ((g.i : Nat) : Int) co.A co.n co.c co.vs hO.2.2.2.here.down hO.1 cx.A cx.n cx.c cx.vs hX.2.2.2.here.down hX.1 cy.A cy.n cy.c cy.vs hY.2.2.2.here.down hY.1 (by have := hsl ((g.i : Nat) : Int) co cx cy hfo hfx hfy; have := hO.1; have := hX.1; omega) (by have := hsl ((g.i : Nat) : Int) co cx cy hfo hfx hfy; have := hY.1; have := hX.1; omega) (by have := hsl ((g.i : Nat) : Int) co cx cy hfo hfx hfy; have := hX.1; omega)) rfl ?_
        rintro _ _ ⟨vB, ve, vG, vA', vC', vE', rfl, hvo, hvk, rfl⟩
        refine o_val rfl rfl rfl (y_assign (v := (.slice _ _ _)) rfl) ?_
        refine o_nil ?_
        have hs := hsl ((g.i : Nat) : Int) co cx cy hfo hfx hfy
        have hxn := hX.1
        have hbd := hX.2.2.1
        have hcln := cl_len (s := x.e) (k := ((g.i : Nat) : Int)) (o := co.vs) (x := cx.vs) (y := cy.vs) (i := cx.n)
        have hpk : pickC x.e ((g.i : Nat) : Int) (fc o.cs ((g.i : Nat) : Int)) (fc x.cs ((g.i : Nat) : Int)) (fc y.cs ((g.i : Nat) : Int)) = (some (valsOut co.vs cx.vs cy.vs), valsCl x.e ((g.i : Nat) : Int) co.vs cx.vs cy.vs cx.n) := by unfold fc; rw [hfo, hfx, hfy]; simp only [Option.map]; rw [pick_some, hxn]
        exact ⟨⟨true, vB, cx.n, ve, valsOut co.vs cx.vs cy.vs, vG, _, vA', vC', vE'⟩, ⟨hvo.mem.ms orM_right, by simpa using hvo.len, by dsimp only; omega, by rw [hpk]; rfl, hvk, by rw [hpk], by dsimp only; rw [List.length_append]; omega⟩, ⟨rfl, rfl, rfl, rfl, rfl, rfl, rfl, rfl, rfl, rfl, rfl, trivial⟩, (sub_picks [2, 0, 0, 0, 0, 0, 0, 0, 0, 0] rfl)⟩
    intro u _f hU
    refine s_norm _ (by simp only [pull, picks, setG, List.cons_append, List.nil_append, List.append_nil, List.drop_succ_cons, List.drop_zero]; rfl) ?_
    obtain ⟨huv, hul, hub, huk, hko, hukl, hukn⟩ := hU
    refine s_seq ?_
    refine s_region ?_
    refine o_val rfl rfl rfl (y_move (v := (.bool _)) rfl) ?_
    refine o_nil ?_
    refine s_ifb rfl (fun h124 => ?_) (fun h125 => ?_)
    · have hkp := h124
      refine s_pull 4 ?_
      refine s_pull 4 ?_
      refine s_drawn 2 (by kernel_rfl) ?_
      refine d_val (i := 0) rfl (by kernel_rfl) (by kernel_rfl) (by kernel_rfl) rfl rfl rfl (y_field0 Try.runUnderlying136 rfl Try.sizeOf33 rfl rfl) ?_
      refine d_val (i := 2) rfl (by kernel_rfl) (by kernel_rfl) (by kernel_rfl) rfl rfl rfl (y_move (v := (.int _ _)) rfl) ?_
      refine d_val (i := 3) rfl (by kernel_rfl) (by kernel_rfl) (by kernel_rfl) rfl rfl rfl (y_move (v := (.slice _ _ _)) rfl) ?_
      refine d_eff2 (k := 1) (k' := 4) (n := 2) (m := 8) rfl rfl (by kernel_rfl) rfl ?_ ?_
      · refine o_val rfl rfl rfl (y_load Try.isAgg33 rfl (cel_own 0 rfl rfl)) ?_
        refine o_nil ?_
        refine d_eff (k := 4) (n := 2) (m := 8) rfl (by kernel_rfl) rfl ?_
        refine o_fn 0 (d := 113) rfl Try.call93 (CloneI_c u.A' u.n' u.c' u.vs (huv.ms (orM_ext (j := 2) rfl)) hul (by omega)) rfl ?_
        rintro _ _ ⟨wB, we, wG, rfl, hwo, rfl⟩
        refine o_nil ?_
        refine d_val (i := 5) rfl (by kernel_rfl) (by kernel_rfl) (by kernel_rfl) rfl rfl rfl (y_build (vs := [(0, .int _ _), (1, .slice _ _ _)]) rfl (CompsM_k3 _ _ _ _)) ?_
        refine d_eff (k := 6) (n := 3) (m := 8) rfl (by kernel_rfl) rfl ?_
        refine o_lit (vs := [(0, .agg #[.int _ _, .slice _ _ _])]) rfl rfl (CompsM_k4 _ _ _ _) (fun b126 => ?_)
        refine o_nil ?_
        refine d_eff (k := 7) (n := 3) (m := 8) rfl (by kernel_rfl) rfl ?_
        refine o_append (sz := 2) (bytes := 32) (news := [(.int _ _), (.slice _ _ _)]) 2 rfl Try.underlying33 Try.type155 rfl rfl rfl rfl rfl hio rfl rfl (Src.slice Try.underlying33 (cels_own 11 rfl rfl) rfl (by simp [Value.oneCell']) (by simp)) (by omega) (fun A127 c128 E129 ho130 hn131 => ?_)
        have ho132 : OS A127 (g.cs.length + 1) c128 155 2 ((g.cs ++ [CR.mk ((g.i : Nat) : Int) wB u.n' we u.vs]).flatMap encC) E129 := os_snoc ho130 rfl
        clear ho130
        refine o_nil ?_
        refine d_val (i := 8) rfl (by kernel_rfl) (by kernel_rfl) (by kernel_rfl) rfl rfl rfl (y_field0 Try.runUnderlying136 rfl Try.sizeOf33 rfl rfl) ?_
        refine d_eff (k := 9) (n := 3) (m := 8) rfl (by kernel_rfl) rfl ?_
        refine o_store (v := (.slice _ _ _)) 1 rfl Try.sizeOf33 rfl rfl rfl rfl ?_
        refine o_nil ?_
        refine d_nil (n := 3) (m := 8) (by kernel_rfl) rfl ?_
        refine s_norm [_, [(_, .cells [(.int _ _), (.int _ _), (.slice _ _ _)].toArray 136 (0, 0))], _, _, [(_, .cells [(.slice _ _ _)].toArray 184 (0, 0))], _, _, [(_, .cells [(.int _ _), (.int _ _), (.slice _ _ _)].toArray 136 (0, 0))], [(_, .cells [(.int _ _), (.int _ _), (.slice _ _ _)].toArray 136 (0, 0))], [(_, .cells [(.int _ _), (.int _ _), (.slice _ _ _)].toArray 136 (0, 0))], [(_, .cells [(.int _ _), (.int _ _), (.slice _ _ _)].toArray 136 (0, 0))], [(_, .cells [(.int _ _), (.slice _ _ _)].toArray 155 (0, 0))]] rfl ?_
        refine s_forget [(0, (.pointer _)), (7, (.pointer _)), (8, (.pointer _)), (9, (.pointer _)), (10, (.pointer _)), (11, (.pointer _)), (24, (.int _ _)), (25, (.int _ _))] ⟨rfl, rfl, rfl, rfl, rfl, rfl, rfl, rfl, trivial⟩ (fun _f => ?_)
        refine s_region ?_
        refine o_pull 6 ?_
        refine o_pull 1 ?_
        refine o_fuse ?_
        refine o_val rfl rfl rfl (y_add rfl rfl (by simp only [inK]; omega)) ?_
        refine o_val rfl rfl rfl (y_move (v := (.int _ _)) rfl) ?_
        refine o_nil ?_
        exact ⟨LX3.mk (g.i + 1) (g.cs ++ [(CR.mk ((g.i : Nat) : Int) wB u.n' we u.vs)]) A127 c128 E129 (wG ++ g.P) u.kl u.A u.C u.cE, (by first | omega | (dsimp only; omega)), ⟨by dsimp only; omega, by dsimp only; rw [List.length_append]; exact ho132, all_snoc (fun c hc => (hic c hc).sub inG_right) ⟨hul, hwo.2.1, hub, hwo.mem.ms inG_left⟩, by dsimp only [compsOut]; rw [← huk, if_pos hkp, List.map_append, hid]; rfl, hko, by dsimp only [compsCl]; rw [hukl, hkd, List.append_assoc], by dsimp only; omega, by simp only [List.length_append, List.length_singleton]; omega⟩, ⟨(congrArg (Value.int .i64) (by (try dsimp only); omega)), rfl, rfl, rfl, rfl, rfl, rfl, rfl, trivial⟩, (by dsimp only; rw [List.length_append]; exact sub_picks [1, 1, 0, 1, 1, 1, 1, 1, 1] rfl)⟩
      · refine o_fn 0 (d := 113) rfl Try.call93 (CloneI_c u.A' u.n' u.c' u.vs (huv.ms (orM_ext (j := 2) rfl)) hul (by omega)) rfl ?_
        rintro _ _ ⟨wB, we, wG, rfl, hwo, rfl⟩
        refine o_nil ?_
        refine d_val (i := 5) rfl (by kernel_rfl) (by kernel_rfl) (by kernel_rfl) rfl rfl rfl (y_build (vs := [(0, .int _ _), (1, .slice _ _ _)]) rfl (CompsM_k3 _ _ _ _)) ?_
        refine d_eff2 (k := 1) (k' := 6) (n := 3) (m := 8) rfl rfl (by kernel_rfl) rfl ?_ ?_
        · refine o_val rfl rfl rfl (y_load Try.isAgg33 rfl (cel_own 1 rfl rfl)) ?_
          refine o_nil ?_
          refine d_eff (k := 6) (n := 3) (m := 8) rfl (by kernel_rfl) rfl ?_
          refine o_lit (vs := [(0, .agg #[.int _ _, .slice _ _ _])]) rfl rfl (CompsM_k4 _ _ _ _) (fun b133 => ?_)
          refine o_nil ?_
          refine d_eff (k := 7) (n := 3) (m := 8) rfl (by kernel_rfl) rfl ?_
          refine o_append (sz := 2) (bytes := 32) (news := [(.int _ _), (.slice _ _ _)]) 2 rfl Try.underlying33 Try.type155 rfl rfl rfl rfl rfl hio rfl rfl (Src.slice Try.underlying33 (cels_own 11 rfl rfl) rfl (by simp [Value.oneCell']) (by simp)) (by omega) (fun A134 c135 E136 ho137 hn138 => ?_)
          have ho139 : OS A134 (g.cs.length + 1) c135 155 2 ((g.cs ++ [CR.mk ((g.i : Nat) : Int) wB u.n' we u.vs]).flatMap encC) E136 := os_snoc ho137 rfl
          clear ho137
          refine o_nil ?_
          refine d_val (i := 8) rfl (by kernel_rfl) (by kernel_rfl) (by kernel_rfl) rfl rfl rfl (y_field0 Try.runUnderlying136 rfl Try.sizeOf33 rfl rfl) ?_
          refine d_eff (k := 9) (n := 3) (m := 8) rfl (by kernel_rfl) rfl ?_
          refine o_store (v := (.slice _ _ _)) 1 rfl Try.sizeOf33 rfl rfl rfl rfl ?_
          refine o_nil ?_
          refine d_nil (n := 3) (m := 8) (by kernel_rfl) rfl ?_
          refine s_norm [_, [(_, .cells [(.int _ _), (.int _ _), (.slice _ _ _)].toArray 136 (0, 0))], _, _, [(_, .cells [(.slice _ _ _)].toArray 184 (0, 0))], _, _, [(_, .cells [(.int _ _), (.int _ _), (.slice _ _ _)].toArray 136 (0, 0))], [(_, .cells [(.int _ _), (.int _ _), (.slice _ _ _)].toArray 136 (0, 0))], [(_, .cells [(.int _ _), (.int _ _), (.slice _ _ _)].toArray 136 (0, 0))], [(_, .cells [(.int _ _), (.int _ _), (.slice _ _ _)].toArray 136 (0, 0))], [(_, .cells [(.int _ _), (.slice _ _ _)].toArray 155 (0, 0))]] rfl ?_
          refine s_forget [(0, (.pointer _)), (7, (.pointer _)), (8, (.pointer _)), (9, (.pointer _)), (10, (.pointer _)), (11, (.pointer _)), (24, (.int _ _)), (25, (.int _ _))] ⟨rfl, rfl, rfl, rfl, rfl, rfl, rfl, rfl, trivial⟩ (fun _f => ?_)
          refine s_region ?_
          refine o_pull 6 ?_
          refine o_pull 1 ?_
          refine o_fuse ?_
          refine o_val rfl rfl rfl (y_add rfl rfl (by simp only [inK]; omega)) ?_
          refine o_val rfl rfl rfl (y_move (v := (.int _ _)) rfl) ?_
          refine o_nil ?_
          exact ⟨LX3.mk (g.i + 1) (g.cs ++ [(CR.mk ((g.i : Nat) : Int) wB u.n' we u.vs)]) A134 c135 E136 (wG ++ g.P) u.kl u.A u.C u.cE, (by first | omega | (dsimp only; omega)), ⟨by dsimp only; omega, by dsimp only; rw [List.length_append]; exact ho139, all_snoc (fun c hc => (hic c hc).sub inG_right) ⟨hul, hwo.2.1, hub, hwo.mem.ms inG_left⟩, by dsimp only [compsOut]; rw [← huk, if_pos hkp, List.map_append, hid]; rfl, hko, by dsimp only [compsCl]; rw [hukl, hkd, List.append_assoc], by dsimp only; omega, by simp only [List.length_append, List.length_singleton]; omega⟩, ⟨(congrArg (Value.int .i64) (by (try dsimp only); omega)), rfl, rfl, rfl, rfl, rfl, rfl, rfl, trivial⟩, (by dsimp only; rw [List.length_append]; exact sub_picks [1, 1, 0, 1, 1, 1, 1, 1, 1] rfl)⟩
        · refine o_lit (vs := [(0, .agg #[.int _ _, .slice _ _ _])]) rfl rfl (CompsM_k4 _ _ _ _) (fun b140 => ?_)
          refine o_nil ?_
          refine d_now (i := 1) [] rfl (by kernel_rfl) (by kernel_rfl) (by kernel_rfl) rfl rfl rfl (y_load Try.isAgg33 rfl (cel_own 1 rfl rfl)) trivial ?_
          refine d_eff (k := 7) (n := 3) (m := 8) rfl (by kernel_rfl) rfl ?_
          refine o_append (sz := 2) (bytes := 32) (news := [(.int _ _), (.slice _ _ _)]) 2 rfl Try.underlying33 Try.type155 rfl rfl rfl rfl rfl hio rfl rfl (Src.slice Try.underlying33 (cels_own 11 rfl rfl) rfl (by simp [Value.oneCell']) (by simp)) (by omega) (fun A141 c142 E143 ho144 hn145 => ?_)
          have ho146 : OS A141 (g.cs.length + 1) c142 155 2 ((g.cs ++ [CR.mk ((g.i : Nat) : Int) wB u.n' we u.vs]).flatMap encC) E143 := os_snoc ho144 rfl
          clear ho144
          refine o_nil ?_
          refine d_val (i := 8) rfl (by kernel_rfl) (by kernel_rfl) (by kernel_rfl) rfl rfl rfl (y_field0 Try.runUnderlying136 rfl Try.sizeOf33 rfl rfl) ?_
          refine d_eff (k := 9) (n := 3) (m := 8) rfl (by kernel_rfl) rfl ?_
          refine o_store (v := (.slice _ _ _)) 1 rfl Try.sizeOf33 rfl rfl rfl rfl ?_
          refine o_nil ?_
          refine d_nil (n := 3) (m := 8) (by kernel_rfl) rfl ?_
          refine s_norm [_, [(_, .cells [(.int _ _), (.int _ _), (.slice _ _ _)].toArray 136 (0, 0))], _, _, [(_, .cells [(.slice _ _ _)].toArray 184 (0, 0))], _, _, [(_, .cells [(.int _ _), (.int _ _), (.slice _ _ _)].toArray 136 (0, 0))], [(_, .cells [(.int _ _), (.int _ _), (.slice _ _ _)].toArray 136 (0, 0))], [(_, .cells [(.int _ _), (.int _ _), (.slice _ _ _)].toArray 136 (0, 0))], [(_, .cells [(.int _ _), (.int _ _), (.slice _ _ _)].toArray 136 (0, 0))], [(_, .cells [(.int _ _), (.slice _ _ _)].toArray 155 (0, 0))]] rfl ?_
          refine s_forget [(0, (.pointer _)), (7, (.pointer _)), (8, (.pointer _)), (9, (.pointer _)), (10, (.pointer _)), (11, (.pointer _)), (24, (.int _ _)), (25, (.int _ _))] ⟨rfl, rfl, rfl, rfl, rfl, rfl, rfl, rfl, trivial⟩ (fun _f => ?_)
          refine s_region ?_
          refine o_pull 6 ?_
          refine o_pull 1 ?_
          refine o_fuse ?_
          refine o_val rfl rfl rfl (y_add rfl rfl (by simp only [inK]; omega)) ?_
          refine o_val rfl rfl rfl (y_move (v := (.int _ _)) rfl) ?_
          refine o_nil ?_
          exact ⟨LX3.mk (g.i + 1) (g.cs ++ [(CR.mk ((g.i : Nat) : Int) wB u.n' we u.vs)]) A141 c142 E143 (wG ++ g.P) u.kl u.A u.C u.cE, (by first | omega | (dsimp only; omega)), ⟨by dsimp only; omega, by dsimp only; rw [List.length_append]; exact ho146, all_snoc (fun c hc => (hic c hc).sub inG_right) ⟨hul, hwo.2.1, hub, hwo.mem.ms inG_left⟩, by dsimp only [compsOut]; rw [← huk, if_pos hkp, List.map_append, hid]; rfl, hko, by dsimp only [compsCl]; rw [hukl, hkd, List.append_assoc], by dsimp only; omega, by simp only [List.length_append, List.length_singleton]; omega⟩, ⟨(congrArg (Value.int .i64) (by (try dsimp only); omega)), rfl, rfl, rfl, rfl, rfl, rfl, rfl, trivial⟩, (by dsimp only; rw [List.length_append]; exact sub_picks [1, 1, 0, 1, 1, 1, 1, 1, 1] rfl)⟩
    · have hkp := h125
      refine s_skip ?_
      refine s_region ?_
      refine o_val rfl rfl rfl (y_add rfl rfl (by simp only [inK]; omega)) ?_
      refine o_val rfl rfl rfl (y_move (v := (.int _ _)) rfl) ?_
      refine o_nil ?_
      exact ⟨LX3.mk (g.i + 1) g.cs g.iA g.iC g.iE g.P u.kl u.A u.C u.cE, (by first | omega | (dsimp only; omega)), ⟨by dsimp only; omega, hio, hic, by dsimp only [compsOut]; rw [← huk, if_neg (by rw [hkp]; exact Bool.false_ne_true), hid]; exact (List.append_nil _).symm, hko, by dsimp only [compsCl]; rw [hukl, hkd, List.append_assoc], by dsimp only; omega, by dsimp only; omega⟩, ⟨(congrArg (Value.int .i64) (by (try dsimp only); omega)), rfl, rfl, rfl, rfl, rfl, rfl, rfl, trivial⟩, (sub_picks [3, 3, 3, 1, 1, 1, 1, 1, 1] rfl)⟩
  · refine s_exit ?_
    refine s_seq ?_
    refine s_region ?_
    refine o_val rfl rfl rfl (y_loads (cs := [_, _, _]) Try.isAgg136 Try.sizeOf136 rfl rfl rfl (cels_own 0 rfl rfl)) ?_
    refine o_stores (vs := [(.int _ _), (.int _ _), (.slice _ _ _)]) 8 rfl Try.sizeOf136 rfl rfl rfl (by simp [Value.oneCell']) (by simp) ?_
    refine o_nil ?_
    refine s_norm [[(_, .cells [(.int _ _), (.int _ _), (.slice _ _ _)].toArray 136 (0, 0))], _, _, [(_, .cells [(.slice _ _ _)].toArray 184 (0, 0))], _, [(_, .cells [(.int _ _), (.int _ _), (.slice _ _ _)].toArray 136 (0, 0))], [(_, .cells [(.int _ _), (.int _ _), (.slice _ _ _)].toArray 136 (0, 0))], [(_, .cells [(.int _ _), (.int _ _), (.slice _ _ _)].toArray 136 (0, 0))], [(_, .cells [(.int _ _), (.int _ _), (.slice _ _ _)].toArray 136 (0, 0))]] rfl ?_
    refine s_ret ?_
    have hgn : g.i = K := by omega
    rw [hgn] at hid hkd
    exact ⟨_, [[(mb, .cells [.slice g.A (kl ++ compsCl x.e o.cs x.cs y.cs K).length g.C].toArray 184 (0, 0))], g.cE, g.iE, g.P], resv1 rfl (RV.cells (cs := [_, _, _]) rfl Try.isAgg136 Try.sizeOf136 rfl rfl (cels_own 8 rfl rfl)), ⟨⟨x.e, x.g, g.iA, g.cs.length, g.iC, g.cs⟩, _, _, _, _, _, rfl, rfl, rfl, hio, by dsimp only; omega, hic, hid, hkd ▸ hko, rfl⟩, (by rw [← hkd]; exact sub_picks [3, 3, 1, 1] rfl)⟩

end Go.Proofs.Ytacmbiohjiogiaa.K
