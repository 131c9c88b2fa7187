/- Walk over the law MergeTurned. No condition beyond what each statement names. -/
import Derived.Test.YtacmbiohjiogiaaProg
import Derived.Test.YtacmbiohjiogiaaK17
import Derived.Test.YtacmbiohjiogiaaM1
import Derived.Test.YtacmbiohjiogiaaM2
import Derived.Test.YtacmbiohjiogiaaW1
import Derived.Test.YtacmbiohjiogiaaW2
import Derived.Test.YtacmbiohjiogiaaW3
import Derived.Test.YtacmbiohjiogiaaW4
import Derived.Test.YtacmbiohjiogiaaW5
import Derived.Test.YtacmbiohjiogiaaW6
import Derived.Test.YtacmbiohjiogiaaW7
import Derived.Test.YtacmbiohjiogiaaW8
import Derived.Test.YtacmbiohjiogiaaX1
import Derived.Test.YtacmbiohjiogiaaX2
import Derived.Test.YtacmbiohjiogiaaX3
import Derived.Test.YtacmbiohjiogiaaX4
import Derived.Test.YtacmbiohjiogiaaX5
import Derived.Test.YtacmbiohjiogiaaX6
import Derived.Test.YtacmbiohjiogiaaX7
import Derived.Test.YtacmbiohjiogiaaX8
import Derived.Test.YtacmbiohjiogiaaX9
import Derived.Test.YtacmbiohjiogiaaX10
import Derived.Test.YtacmbiohjiogiaaX11
import Derived.Test.YtacmbiohjiogiaaX12
import Derived.Test.YtacmbiohjiogiaaX13
set_option linter.unusedVariables false
set_option linter.unusedSimpArgs false
set_option maxRecDepth 100000
namespace Go.Proofs.Ytacmbiohjiogiaa.K
open Go.RowKit

structure LT14 where
  p : Nat
  q : Nat
  a : WR
  aG : Grp
  b : WR
  bG : Grp
/-- What is known of a changed world. -/
def chgd (wG : Grp) (w a : WR) (aG : Grp) : Prop := WOK (orM (inG wG) (inG aG)) a ∧ a.ks = w.ks ∧ wErr a.ks a.gs a.its = 0
theorem compsOut_len {s : Int} {o x y : List CR} : ∀ K, (compsOut s o x y K).length ≤ K
  | 0 => Nat.le_refl _
  | K + 1 => by
    have := compsOut_len (s := s) (o := o) (x := x) (y := y) K
    rw [compsOut, List.length_append, List.length_map]
    cases (pickC s (K : Nat) (fc o (K : Nat)) (fc x (K : Nat)) (fc y (K : Nat))).1 <;> simp <;> omega
theorem pair_len {m : Nat} : ∀ {ds : List (Int × List Int)} {lo : Int}, ds.Pairwise (fun a b => a.1 < b.1) → (∀ d ∈ ds, lo ≤ d.1 ∧ d.1 < lo + m) → ds.length ≤ m
  | [], _, _, _ => Nat.zero_le _
  | d :: ds, lo, h, hb => by
    obtain ⟨h1, h2⟩ := List.pairwise_cons.1 h
    have hd := hb d List.mem_cons_self
    cases m with
    | zero => omega
    | succ m =>
      have := pair_len (m := m) (lo := lo + 1) h2 fun e he => by
        have := h1 e he
        have := hb e (List.mem_cons_of_mem _ he)
        omega
      simp only [List.length_cons]; omega
theorem held_len {ks : List KR} {cs : List CR} (h : heldP ks cs) : cs.length ≤ ks.length := by
  have g := good_held h
  have := pair_len (m := ks.length) (lo := 0) g.1 fun d hd => by have := g.2 d hd; omega
  rwa [List.length_map] at this
theorem mCl_len {K : Nat} {wo wx wy : WR} (hK : K ≤ 16) (hx : itemsP wx.ks wx.gs wx.its) : ∀ N : Nat, (mCl K wo wx wy N).length ≤ 273 * N
  | 0 => Nat.le_refl _
  | N + 1 => by
    have h1 := mCl_len (wo := wo) (wy := wy) hK hx N
    have h2 : (mergeAt K wo wx wy N).2.length ≤ 17 * K + 1 := slot_len fun i hi k c hc => by
      have h8 := holds_fits (held_find (find_held hx hi).2.2.2.2.2 hc).2.2.2
      have := (oneErr_zero h8.1).2.1
      omega
    rw [mCl, List.length_append]; omega
theorem its_held {ks : List KR} {gs : List Int} {its : List IR} (h : itemsP ks gs its) {B : Nat} (hB : ks.length ≤ B) : ∀ i ∈ its, i.cs.length ≤ B := fun i hi => by
  obtain ⟨j, hj, rfl⟩ := List.mem_iff_getElem.1 hi
  have h2 := (h j hj).2.2.2.2
  rw [show its.getD j default = its[j] from by simp [List.getD_eq_getElem?_getD, hj]] at h2
  have := held_len h2
  omega

theorem run_neq_clash (a0 b0 : Int) (a1 b1 : Int) (a2 b2 : Int) (a3 b3 : Int) (w : World) : (binOp .neq 68 (.agg #[.int .i64 a0, .int .i64 a1, .int .i64 a2, .int .i64 a3]) (.agg #[.int .i64 b0, .int .i64 b1, .int .i64 b2, .int .i64 b3])).run Try.prog w = .ok (.bool (decide (¬ (a0 = b0 ∧ a1 = b1 ∧ a2 = b2 ∧ a3 = b3)))) w := by
  simp [go_sem]
  by_cases h0 : a0 = b0 <;> by_cases h1 : a1 = b1 <;> by_cases h2 : a2 = b2 <;> by_cases h3 : a3 = b3 <;> simp [h0, h1, h2, h3]
theorem y_neq_clash {f : Frm} {V : Mem} {L : List Grp} {d : Option Tmp} {ty : TypeId} {ps : String} {af : Array Edge} {g : Option (Nat × Bool)} {x y : Operand} {yt : TypeId} {a0 b0 : Int} {a1 b1 : Int} {a2 b2 : Int} {a3 b3 : Int} (hx : evF f x = .agg #[.int .i64 a0, .int .i64 a1, .int .i64 a2, .int .i64 a3]) (hy : evF f y = .agg #[.int .i64 b0, .int .i64 b1, .int .i64 b2, .int .i64 b3]) :
    Yld Try.prog f V L ⟨d, .binOp .neq 68 x y yt, ty, ps, af, g⟩ (.bool (decide (¬ (a0 = b0 ∧ a1 = b1 ∧ a2 = b2 ∧ a3 = b3)))) := fun _ w _ => by
  simp only [execOp, hx, hy, Sem.run_bind, eqGuard_agg (P := Try.prog) (t := 68) (by kernel_rfl), Result.andThen_ok, run_neq_clash]
  rfl

theorem EqualCl_c {V : Mem} (A : Option Addr) (n c : Nat) (xs : List KL) (h : Cels V [] A (xs.flatMap encKL)) (hn : xs.length = n) (hbn : n ≤ 140737488355328) (B : Option Addr) (m d : Nat) (ys : List KL) (h' : Cels V [] B (ys.flatMap encKL)) (hm : ys.length = m) (hbm : m ≤ 140737488355328) : CallS Try.prog 33 [.slice A n c, .slice B m d].toArray V [] (fun r L' => r = .bool (decide (All2 (fun a b => a.what = b.what ∧ a.slot = b.slot ∧ a.kind = b.kind ∧ a.field = b.field) xs ys)) ∧ L' = []) := by
  refine callS Try.func33 rfl rfl (fun w0 => ?_)
  refine s_seq ?_
  refine s_region ?_
  refine o_val rfl rfl rfl (y_assign (v := (.bool _)) rfl) ?_
  refine o_nil ?_
  refine s_seq ?_
  refine s_seq ?_
  refine s_region ?_
  refine o_val rfl rfl rfl (y_move (v := (.slice _ _ _)) rfl) ?_
  refine o_val rfl rfl rfl (y_len Try.runUnderlying50 rfl) ?_
  refine o_val rfl rfl rfl (y_move (v := (.slice _ _ _)) rfl) ?_
  refine o_val rfl rfl rfl (y_len Try.runUnderlying50 rfl) ?_
  refine o_val rfl rfl rfl (y_neq rfl rfl) ?_
  refine o_nil ?_
  refine s_if rfl (fun h1 => ?_) (fun h2 => ?_)
  · refine s_seq ?_
    refine s_region ?_
    refine o_val rfl rfl rfl (y_assign (v := (.bool _)) rfl) ?_
    refine o_nil ?_
    refine s_ret ?_
    exact ⟨_, [], res1 rfl rfl, ⟨congrArg Value.bool (decide_eq_false (fun hh => by have := hh.1; omega)).symm, rfl⟩, sub_picks [] rfl⟩
  · refine s_skip ?_
    refine s_seq ?_
    refine s_seq ?_
    refine s_region ?_
    refine o_val rfl rfl rfl (y_move (v := (.slice _ _ _)) rfl) ?_
    refine o_val rfl rfl rfl (y_len Try.runUnderlying50 rfl) ?_
    refine o_val rfl rfl rfl (y_move (v := (.int _ _)) rfl) ?_
    refine o_nil ?_
    refine s_block ?_
    refine s_loopK (γ := Nat) [(0, (.slice _ _ _)), (1, (.slice _ _ _)), (12, (.int _ _))] [] (fun g => [(13, .int .i64 g)]) (fun g => []) (fun g => g ≤ n ∧ ∀ j, j < g → (fun (a b : KL) => a.what = b.what ∧ a.slot = b.slot ∧ a.kind = b.kind ∧ a.field = b.field) (xs.getD j default) (ys.getD j default)) (fun g => n - g) (0) ⟨rfl, rfl, rfl, rfl, trivial⟩ (sub_picks [] rfl) ?_ ?_
    · exact ⟨Nat.zero_le _, fun j hj => absurd hj (Nat.not_lt_zero j)⟩
    intro g _f hI
    obtain ⟨hg, hall⟩ := hI
    refine s_seq ?_
    refine s_region ?_
    refine o_val rfl rfl rfl (y_lss rfl rfl) ?_
    refine o_nil ?_
    refine s_seq ?_
    refine s_if rfl (fun h3 => ?_) (fun h4 => ?_)
    · refine s_skip ?_
      refine s_seq ?_
      refine s_block ?_
      refine s_seq ?_
      refine s_region ?_
      refine o_val rfl rfl rfl (y_move (v := (.int _ _)) rfl) ?_
      refine o_val rfl rfl rfl (y_assign (v := (.int _ _)) rfl) ?_
      refine o_nil ?_
      refine s_seq ?_
      refine s_quiet (by kernel_rfl) (by kernel_rfl) ?_
      refine q_val rfl rfl rfl (y_move (v := (.slice _ _ _)) rfl) ?_
      refine q_val rfl rfl rfl (y_move (v := (.int _ _)) rfl) ?_
      refine q_val rfl rfl rfl (y_indexAddr Try.runUnderlying50 Try.sizeOf68 (some_at (sz := 3) encKL_len (i := 0) h (by omega)) rfl rfl (by omega)) ?_
      refine q_val rfl rfl rfl (y_loads (cs := [_, _, _, _]) Try.isAgg68 Try.sizeOf68 rfl (by unfold idx; rw [Option.isSome_map]; exact some_at (sz := 3) encKL_len (i := 0) h (by omega)) rfl (cels_at (sz := 4) encKL_len h.here (by omega))) ?_
      refine q_val rfl rfl rfl (y_move (v := (.slice _ _ _)) rfl) ?_
      refine q_val rfl rfl rfl (y_move (v := (.int _ _)) rfl) ?_
      refine q_val rfl rfl rfl (y_indexAddr Try.runUnderlying50 Try.sizeOf68 (some_at (sz := 3) encKL_len (i := 0) h' (by omega)) rfl rfl (by omega)) ?_
      refine q_val rfl rfl rfl (y_loads (cs := [_, _, _, _]) Try.isAgg68 Try.sizeOf68 rfl (by unfold idx; rw [Option.isSome_map]; exact some_at (sz := 3) encKL_len (i := 0) h' (by omega)) rfl (cels_at (sz := 4) encKL_len h'.here (by omega))) ?_
      refine q_val rfl rfl rfl (y_neq_clash rfl rfl) ?_
      refine q_nil ?_
      refine s_forget [(0, (.slice _ _ _)), (1, (.slice _ _ _)), (12, (.int _ _)), (13, (.int _ _)), (24, (.bool _))] ⟨rfl, rfl, rfl, rfl, rfl, trivial⟩ (fun _f => ?_)
      refine s_if rfl (fun h5 => ?_) (fun h6 => ?_)
      · have hne := h5
        refine s_seq ?_
        refine s_region ?_
        refine o_val rfl rfl rfl (y_assign (v := (.bool _)) rfl) ?_
        refine o_nil ?_
        refine s_ret ?_
        exact ⟨_, [], res1 rfl rfl, ⟨congrArg Value.bool (decide_eq_false (fun hh => hne (hh.2 g (by omega)))).symm, rfl⟩, sub_picks [] rfl⟩
      · have heq := Decidable.not_not.1 h6
        refine s_skip ?_
        refine s_region ?_
        refine o_val rfl rfl rfl (y_add rfl rfl (by simp only [inK]; omega)) ?_
        refine o_val rfl rfl rfl (y_move (v := (.int _ _)) rfl) ?_
        refine o_nil ?_
        exact ⟨g + 1, (by first | omega | (dsimp only; omega)), ⟨by omega, all_next hall heq⟩, ⟨(congrArg (Value.int .i64) (by omega)), rfl, rfl, rfl, trivial⟩, (sub_picks [] rfl)⟩
    · refine s_exit ?_
      refine s_seq ?_
      refine s_region ?_
      refine o_val rfl rfl rfl (y_assign (v := (.bool _)) rfl) ?_
      refine o_nil ?_
      refine s_ret ?_
      exact ⟨_, [], res1 rfl rfl, ⟨congrArg Value.bool (decide_eq_true (⟨by omega, fun j hj => hall j (by omega)⟩)).symm, rfl⟩, sub_picks [] rfl⟩

theorem MergeTurned_c {V : Mem} (A : Option Addr) (n c : Nat) (l : List Int) (h : Cels V [] A (l.map (.int .i64))) (hn : l.length = n) (hc : n ≤ c) (B : Option Addr) (m d : Nat) (x : List Int) (h' : Cels V [] B (x.map (.int .i64))) (hm : x.length = m) (hd : m ≤ d) (C : Option Addr) (e f : Nat) (y : List Int) (h'' : Cels V [] C (y.map (.int .i64))) (he : y.length = e) (hf : e ≤ f) : CallS Try.prog 6 [.slice A n c, .slice B m d, .slice C e f].toArray V [] (fun r L' => r = .bool true ∧ L' = []) := by
  refine callS Try.func6 rfl rfl (fun w0 => ?_)
  refine s_seq ?_
  refine s_region ?_
  refine o_val rfl rfl rfl (y_assign (v := (.bool _)) rfl) ?_
  refine o_nil ?_
  refine s_seq ?_
  refine s_region ?_
  refine o_val rfl rfl rfl (y_move (v := (.slice _ _ _)) rfl) ?_
  refine o_fn 0 (d := 17) rfl Try.call23 (GenW_c A n c l h.here.down hn hc) rfl ?_
  rintro _ _ ⟨w, wG, rfl, hw, hs, rfl⟩
  refine o_alloc rfl Try.zeroValue47 rfl (fun b1 => ?_)
  refine o_stores (vs := [(.slice _ _ _), (.slice _ _ _), (.slice _ _ _)]) 1 rfl Try.sizeOf47 rfl rfl rfl (by simp [Value.oneCell']) (by simp) ?_
  refine o_nil ?_
  refine s_joinK (γ := LT14) [(6, (.bool _)), (7, (.pointer _))] [_, _] (fun u => [(8, .pointer (some ⟨u.p, 0, none⟩)), (9, .pointer (some ⟨u.q, 0, none⟩))]) (fun u => [u.aG, u.bG, [(u.p, .cells [.slice u.a.kA u.a.kn u.a.kc, .slice u.a.gA u.a.gn u.a.gc, .slice u.a.iA u.a.iN u.a.iC].toArray 47 (0, 0))], [(u.q, .cells [.slice u.b.kA u.b.kn u.b.kc, .slice u.b.gA u.b.gn u.b.gc, .slice u.b.iA u.b.iN u.b.iC].toArray 47 (0, 0))]]) (fun u => chgd wG w u.a u.aG ∧ chgd wG w u.b u.bG) ⟨rfl, rfl, trivial⟩ [0, 0] rfl ?_ ?_
  · refine s_drawn 0 (by kernel_rfl) ?_
    refine d_val (i := 0) rfl (by kernel_rfl) (by kernel_rfl) (by kernel_rfl) rfl rfl rfl (y_loads (cs := [_, _, _]) Try.isAgg47 Try.sizeOf47 rfl rfl rfl (cels_own 1 rfl rfl)) ?_
    refine d_val (i := 1) rfl (by kernel_rfl) (by kernel_rfl) (by kernel_rfl) rfl rfl rfl (y_move (v := (.slice _ _ _)) rfl) ?_
    refine d_val (i := 3) rfl (by kernel_rfl) (by kernel_rfl) (by kernel_rfl) rfl rfl rfl (y_loads (cs := [_, _, _]) Try.isAgg47 Try.sizeOf47 rfl rfl rfl (cels_own 1 rfl rfl)) ?_
    refine d_val (i := 4) rfl (by kernel_rfl) (by kernel_rfl) (by kernel_rfl) rfl rfl rfl (y_move (v := (.slice _ _ _)) rfl) ?_
    refine d_eff3 (k := 2) (k' := 6) (k'' := 7) (n := 0) (m := 2) rfl rfl rfl (by kernel_rfl) rfl ?_ ?_ ?_
    · refine o_fn 0 (d := 20) rfl Try.call24 (Changed_c (inG_ext (j := 0) rfl) w hw hs.2.2.2.1 2 (by decide) (fun j hj => by have := hs.2.2.2.2 j hj; omega) (by have := hs.2.1; omega) B m d x h'.here.down hm hd) rfl ?_
      rintro _ _ ⟨a, aG, rfl, hao, has, haz, _, _, _, _, _, rfl⟩
      refine o_nil ?_
      refine d_eff3 (k := 5) (k' := 6) (k'' := 7) (n := 1) (m := 2) rfl rfl rfl (by kernel_rfl) rfl ?_ ?_ ?_
      · refine o_fn 0 (d := 23) rfl Try.call24 (Changed_c (inG_ext (j := 1) rfl) w hw hs.2.2.2.1 2 (by decide) (fun j hj => by have := hs.2.2.2.2 j hj; omega) (by have := hs.2.1; omega) C e f y h''.here.down he hf) rfl ?_
        rintro _ _ ⟨b, bG, rfl, hbo, hbs, hbz, _, _, _, _, _, rfl⟩
        refine o_nil ?_
        refine d_eff2 (k := 6) (k' := 7) (n := 2) (m := 2) rfl rfl (by kernel_rfl) rfl ?_ ?_
        · refine o_alloc rfl Try.zeroValue47 rfl (fun b2 => ?_)
          refine o_nil ?_
          refine d_eff (k := 7) (n := 2) (m := 2) rfl (by kernel_rfl) rfl ?_
          refine o_alloc rfl Try.zeroValue47 rfl (fun b3 => ?_)
          refine o_nil ?_
          refine d_eff (k := 8) (n := 2) (m := 2) rfl (by kernel_rfl) rfl ?_
          refine o_stores (vs := [(.slice _ _ _), (.slice _ _ _), (.slice _ _ _)]) 4 rfl Try.sizeOf47 rfl rfl rfl (by simp [Value.oneCell']) (by simp) ?_
          refine o_nil ?_
          refine d_eff (k := 9) (n := 2) (m := 2) rfl (by kernel_rfl) rfl ?_
          refine o_stores (vs := [(.slice _ _ _), (.slice _ _ _), (.slice _ _ _)]) 5 rfl Try.sizeOf47 rfl rfl rfl (by simp [Value.oneCell']) (by simp) ?_
          refine o_nil ?_
          refine d_nil (n := 2) (m := 2) (by kernel_rfl) rfl ?_
          exact ⟨⟨b2, b3, a, aG, b, bG⟩, ⟨⟨hao, has, haz⟩, ⟨hbo, hbs, hbz⟩⟩, ⟨rfl, rfl, rfl, rfl, trivial⟩, (sub_picks [1, 0, 2, 2, 0, 0] rfl)⟩
        · refine o_alloc rfl Try.zeroValue47 rfl (fun b4 => ?_)
          refine o_nil ?_
          refine d_eff (k := 6) (n := 2) (m := 2) rfl (by kernel_rfl) rfl ?_
          refine o_alloc rfl Try.zeroValue47 rfl (fun b5 => ?_)
          refine o_nil ?_
          refine d_eff (k := 8) (n := 2) (m := 2) rfl (by kernel_rfl) rfl ?_
          refine o_stores (vs := [(.slice _ _ _), (.slice _ _ _), (.slice _ _ _)]) 5 rfl Try.sizeOf47 rfl rfl rfl (by simp [Value.oneCell']) (by simp) ?_
          refine o_nil ?_
          refine d_eff (k := 9) (n := 2) (m := 2) rfl (by kernel_rfl) rfl ?_
          refine o_stores (vs := [(.slice _ _ _), (.slice _ _ _), (.slice _ _ _)]) 4 rfl Try.sizeOf47 rfl rfl rfl (by simp [Value.oneCell']) (by simp) ?_
          refine o_nil ?_
          refine d_nil (n := 2) (m := 2) (by kernel_rfl) rfl ?_
          exact ⟨⟨b5, b4, a, aG, b, bG⟩, ⟨⟨hao, has, haz⟩, ⟨hbo, hbs, hbz⟩⟩, ⟨rfl, rfl, rfl, rfl, trivial⟩, (sub_picks [1, 0, 3, 2, 0, 0] rfl)⟩
      · refine o_alloc rfl Try.zeroValue47 rfl (fun b6 => ?_)
        refine o_nil ?_
        refine d_eff2 (k := 5) (k' := 7) (n := 1) (m := 2) rfl rfl (by kernel_rfl) rfl ?_ ?_
        · refine o_fn 0 (d := 23) rfl Try.call24 (Changed_c (inG_ext (j := 1) rfl) w hw hs.2.2.2.1 2 (by decide) (fun j hj => by have := hs.2.2.2.2 j hj; omega) (by have := hs.2.1; omega) C e f y h''.here.down he hf) rfl ?_
          rintro _ _ ⟨b, bG, rfl, hbo, hbs, hbz, _, _, _, _, _, rfl⟩
          refine o_nil ?_
          refine d_eff (k := 7) (n := 2) (m := 2) rfl (by kernel_rfl) rfl ?_
          refine o_alloc rfl Try.zeroValue47 rfl (fun b7 => ?_)
          refine o_nil ?_
          refine d_eff (k := 8) (n := 2) (m := 2) rfl (by kernel_rfl) rfl ?_
          refine o_stores (vs := [(.slice _ _ _), (.slice _ _ _), (.slice _ _ _)]) 4 rfl Try.sizeOf47 rfl rfl rfl (by simp [Value.oneCell']) (by simp) ?_
          refine o_nil ?_
          refine d_eff (k := 9) (n := 2) (m := 2) rfl (by kernel_rfl) rfl ?_
          refine o_stores (vs := [(.slice _ _ _), (.slice _ _ _), (.slice _ _ _)]) 5 rfl Try.sizeOf47 rfl rfl rfl (by simp [Value.oneCell']) (by simp) ?_
          refine o_nil ?_
          refine d_nil (n := 2) (m := 2) (by kernel_rfl) rfl ?_
          exact ⟨⟨b6, b7, a, aG, b, bG⟩, ⟨⟨hao, has, haz⟩, ⟨hbo, hbs, hbz⟩⟩, ⟨rfl, rfl, rfl, rfl, trivial⟩, (sub_picks [1, 0, 2, 2, 0, 0] rfl)⟩
        · refine o_alloc rfl Try.zeroValue47 rfl (fun b8 => ?_)
          refine o_nil ?_
          refine d_eff (k := 5) (n := 1) (m := 2) rfl (by kernel_rfl) rfl ?_
          refine o_fn 0 (d := 23) rfl Try.call24 (Changed_c (inG_ext (j := 1) rfl) w hw hs.2.2.2.1 2 (by decide) (fun j hj => by have := hs.2.2.2.2 j hj; omega) (by have := hs.2.1; omega) C e f y h''.here.down he hf) rfl ?_
          rintro _ _ ⟨b, bG, rfl, hbo, hbs, hbz, _, _, _, _, _, rfl⟩
          refine o_nil ?_
          refine d_eff (k := 8) (n := 2) (m := 2) rfl (by kernel_rfl) rfl ?_
          refine o_stores (vs := [(.slice _ _ _), (.slice _ _ _), (.slice _ _ _)]) 4 rfl Try.sizeOf47 rfl rfl rfl (by simp [Value.oneCell']) (by simp) ?_
          refine o_nil ?_
          refine d_eff (k := 9) (n := 2) (m := 2) rfl (by kernel_rfl) rfl ?_
          refine o_stores (vs := [(.slice _ _ _), (.slice _ _ _), (.slice _ _ _)]) 5 rfl Try.sizeOf47 rfl rfl rfl (by simp [Value.oneCell']) (by simp) ?_
          refine o_nil ?_
          refine d_nil (n := 2) (m := 2) (by kernel_rfl) rfl ?_
          exact ⟨⟨b6, b8, a, aG, b, bG⟩, ⟨⟨hao, has, haz⟩, ⟨hbo, hbs, hbz⟩⟩, ⟨rfl, rfl, rfl, rfl, trivial⟩, (sub_picks [1, 0, 2, 2, 0, 0] rfl)⟩
      · refine o_alloc rfl Try.zeroValue47 rfl (fun b9 => ?_)
        refine o_nil ?_
        refine d_eff2 (k := 5) (k' := 6) (n := 1) (m := 2) rfl rfl (by kernel_rfl) rfl ?_ ?_
        · refine o_fn 0 (d := 23) rfl Try.call24 (Changed_c (inG_ext (j := 1) rfl) w hw hs.2.2.2.1 2 (by decide) (fun j hj => by have := hs.2.2.2.2 j hj; omega) (by have := hs.2.1; omega) C e f y h''.here.down he hf) rfl ?_
          rintro _ _ ⟨b, bG, rfl, hbo, hbs, hbz, _, _, _, _, _, rfl⟩
          refine o_nil ?_
          refine d_eff (k := 6) (n := 2) (m := 2) rfl (by kernel_rfl) rfl ?_
          refine o_alloc rfl Try.zeroValue47 rfl (fun b10 => ?_)
          refine o_nil ?_
          refine d_eff (k := 8) (n := 2) (m := 2) rfl (by kernel_rfl) rfl ?_
          refine o_stores (vs := [(.slice _ _ _), (.slice _ _ _), (.slice _ _ _)]) 5 rfl Try.sizeOf47 rfl rfl rfl (by simp [Value.oneCell']) (by simp) ?_
          refine o_nil ?_
          refine d_eff (k := 9) (n := 2) (m := 2) rfl (by kernel_rfl) rfl ?_
          refine o_stores (vs := [(.slice _ _ _), (.slice _ _ _), (.slice _ _ _)]) 4 rfl Try.sizeOf47 rfl rfl rfl (by simp [Value.oneCell']) (by simp) ?_
          refine o_nil ?_
          refine d_nil (n := 2) (m := 2) (by kernel_rfl) rfl ?_
          exact ⟨⟨b10, b9, a, aG, b, bG⟩, ⟨⟨hao, has, haz⟩, ⟨hbo, hbs, hbz⟩⟩, ⟨rfl, rfl, rfl, rfl, trivial⟩, (sub_picks [1, 0, 3, 2, 0, 0] rfl)⟩
        · refine o_alloc rfl Try.zeroValue47 rfl (fun b11 => ?_)
          refine o_nil ?_
          refine d_eff (k := 5) (n := 1) (m := 2) rfl (by kernel_rfl) rfl ?_
          refine o_fn 0 (d := 23) rfl Try.call24 (Changed_c (inG_ext (j := 1) rfl) w hw hs.2.2.2.1 2 (by decide) (fun j hj => by have := hs.2.2.2.2 j hj; omega) (by have := hs.2.1; omega) C e f y h''.here.down he hf) rfl ?_
          rintro _ _ ⟨b, bG, rfl, hbo, hbs, hbz, _, _, _, _, _, rfl⟩
          refine o_nil ?_
          refine d_eff (k := 8) (n := 2) (m := 2) rfl (by kernel_rfl) rfl ?_
          refine o_stores (vs := [(.slice _ _ _), (.slice _ _ _), (.slice _ _ _)]) 5 rfl Try.sizeOf47 rfl rfl rfl (by simp [Value.oneCell']) (by simp) ?_
          refine o_nil ?_
          refine d_eff (k := 9) (n := 2) (m := 2) rfl (by kernel_rfl) rfl ?_
          refine o_stores (vs := [(.slice _ _ _), (.slice _ _ _), (.slice _ _ _)]) 4 rfl Try.sizeOf47 rfl rfl rfl (by simp [Value.oneCell']) (by simp) ?_
          refine o_nil ?_
          refine d_nil (n := 2) (m := 2) (by kernel_rfl) rfl ?_
          exact ⟨⟨b11, b9, a, aG, b, bG⟩, ⟨⟨hao, has, haz⟩, ⟨hbo, hbs, hbz⟩⟩, ⟨rfl, rfl, rfl, rfl, trivial⟩, (sub_picks [1, 0, 3, 2, 0, 0] rfl)⟩
    · refine o_alloc rfl Try.zeroValue47 rfl (fun b12 => ?_)
      refine o_nil ?_
      refine d_eff2 (k := 2) (k' := 7) (n := 0) (m := 2) rfl rfl (by kernel_rfl) rfl ?_ ?_
      · refine o_fn 0 (d := 20) rfl Try.call24 (Changed_c (inG_ext (j := 0) rfl) w hw hs.2.2.2.1 2 (by decide) (fun j hj => by have := hs.2.2.2.2 j hj; omega) (by have := hs.2.1; omega) B m d x h'.here.down hm hd) rfl ?_
        rintro _ _ ⟨a, aG, rfl, hao, has, haz, _, _, _, _, _, rfl⟩
        refine o_nil ?_
        refine d_eff2 (k := 5) (k' := 7) (n := 1) (m := 2) rfl rfl (by kernel_rfl) rfl ?_ ?_
        · refine o_fn 0 (d := 23) rfl Try.call24 (Changed_c (inG_ext (j := 1) rfl) w hw hs.2.2.2.1 2 (by decide) (fun j hj => by have := hs.2.2.2.2 j hj; omega) (by have := hs.2.1; omega) C e f y h''.here.down he hf) rfl ?_
          rintro _ _ ⟨b, bG, rfl, hbo, hbs, hbz, _, _, _, _, _, rfl⟩
          refine o_nil ?_
          refine d_eff (k := 7) (n := 2) (m := 2) rfl (by kernel_rfl) rfl ?_
          refine o_alloc rfl Try.zeroValue47 rfl (fun b13 => ?_)
          refine o_nil ?_
          refine d_eff (k := 8) (n := 2) (m := 2) rfl (by kernel_rfl) rfl ?_
          refine o_stores (vs := [(.slice _ _ _), (.slice _ _ _), (.slice _ _ _)]) 4 rfl Try.sizeOf47 rfl rfl rfl (by simp [Value.oneCell']) (by simp) ?_
          refine o_nil ?_
          refine d_eff (k := 9) (n := 2) (m := 2) rfl (by kernel_rfl) rfl ?_
          refine o_stores (vs := [(.slice _ _ _), (.slice _ _ _), (.slice _ _ _)]) 5 rfl Try.sizeOf47 rfl rfl rfl (by simp [Value.oneCell']) (by simp) ?_
          refine o_nil ?_
          refine d_nil (n := 2) (m := 2) (by kernel_rfl) rfl ?_
          exact ⟨⟨b12, b13, a, aG, b, bG⟩, ⟨⟨hao, has, haz⟩, ⟨hbo, hbs, hbz⟩⟩, ⟨rfl, rfl, rfl, rfl, trivial⟩, (sub_picks [1, 0, 2, 2, 0, 0] rfl)⟩
        · refine o_alloc rfl Try.zeroValue47 rfl (fun b14 => ?_)
          refine o_nil ?_
          refine d_eff (k := 5) (n := 1) (m := 2) rfl (by kernel_rfl) rfl ?_
          refine o_fn 0 (d := 23) rfl Try.call24 (Changed_c (inG_ext (j := 1) rfl) w hw hs.2.2.2.1 2 (by decide) (fun j hj => by have := hs.2.2.2.2 j hj; omega) (by have := hs.2.1; omega) C e f y h''.here.down he hf) rfl ?_
          rintro _ _ ⟨b, bG, rfl, hbo, hbs, hbz, _, _, _, _, _, rfl⟩
          refine o_nil ?_
          refine d_eff (k := 8) (n := 2) (m := 2) rfl (by kernel_rfl) rfl ?_
          refine o_stores (vs := [(.slice _ _ _), (.slice _ _ _), (.slice _ _ _)]) 4 rfl Try.sizeOf47 rfl rfl rfl (by simp [Value.oneCell']) (by simp) ?_
          refine o_nil ?_
          refine d_eff (k := 9) (n := 2) (m := 2) rfl (by kernel_rfl) rfl ?_
          refine o_stores (vs := [(.slice _ _ _), (.slice _ _ _), (.slice _ _ _)]) 5 rfl Try.sizeOf47 rfl rfl rfl (by simp [Value.oneCell']) (by simp) ?_
          refine o_nil ?_
          refine d_nil (n := 2) (m := 2) (by kernel_rfl) rfl ?_
          exact ⟨⟨b12, b14, a, aG, b, bG⟩, ⟨⟨hao, has, haz⟩, ⟨hbo, hbs, hbz⟩⟩, ⟨rfl, rfl, rfl, rfl, trivial⟩, (sub_picks [1, 0, 2, 2, 0, 0] rfl)⟩
      · refine o_alloc rfl Try.zeroValue47 rfl (fun b15 => ?_)
        refine o_nil ?_
        refine d_eff (k := 2) (n := 0) (m := 2) rfl (by kernel_rfl) rfl ?_
        refine o_fn 0 (d := 20) rfl Try.call24 (Changed_c (inG_ext (j := 0) rfl) w hw hs.2.2.2.1 2 (by decide) (fun j hj => by have := hs.2.2.2.2 j hj; omega) (by have := hs.2.1; omega) B m d x h'.here.down hm hd) rfl ?_
        rintro _ _ ⟨a, aG, rfl, hao, has, haz, _, _, _, _, _, rfl⟩
        refine o_nil ?_
        refine d_eff (k := 5) (n := 1) (m := 2) rfl (by kernel_rfl) rfl ?_
        refine o_fn 0 (d := 23) rfl Try.call24 (Changed_c (inG_ext (j := 1) rfl) w hw hs.2.2.2.1 2 (by decide) (fun j hj => by have := hs.2.2.2.2 j hj; omega) (by have := hs.2.1; omega) C e f y h''.here.down he hf) rfl ?_
        rintro _ _ ⟨b, bG, rfl, hbo, hbs, hbz, _, _, _, _, _, rfl⟩
        refine o_nil ?_
        refine d_eff (k := 8) (n := 2) (m := 2) rfl (by kernel_rfl) rfl ?_
        refine o_stores (vs := [(.slice _ _ _), (.slice _ _ _), (.slice _ _ _)]) 4 rfl Try.sizeOf47 rfl rfl rfl (by simp [Value.oneCell']) (by simp) ?_
        refine o_nil ?_
        refine d_eff (k := 9) (n := 2) (m := 2) rfl (by kernel_rfl) rfl ?_
        refine o_stores (vs := [(.slice _ _ _), (.slice _ _ _), (.slice _ _ _)]) 5 rfl Try.sizeOf47 rfl rfl rfl (by simp [Value.oneCell']) (by simp) ?_
        refine o_nil ?_
        refine d_nil (n := 2) (m := 2) (by kernel_rfl) rfl ?_
        exact ⟨⟨b12, b15, a, aG, b, bG⟩, ⟨⟨hao, has, haz⟩, ⟨hbo, hbs, hbz⟩⟩, ⟨rfl, rfl, rfl, rfl, trivial⟩, (sub_picks [1, 0, 2, 2, 0, 0] rfl)⟩
    · refine o_alloc rfl Try.zeroValue47 rfl (fun b16 => ?_)
      refine o_nil ?_
      refine d_eff2 (k := 2) (k' := 6) (n := 0) (m := 2) rfl rfl (by kernel_rfl) rfl ?_ ?_
      · refine o_fn 0 (d := 20) rfl Try.call24 (Changed_c (inG_ext (j := 0) rfl) w hw hs.2.2.2.1 2 (by decide) (fun j hj => by have := hs.2.2.2.2 j hj; omega) (by have := hs.2.1; omega) B m d x h'.here.down hm hd) rfl ?_
        rintro _ _ ⟨a, aG, rfl, hao, has, haz, _, _, _, _, _, rfl⟩
        refine o_nil ?_
        refine d_eff2 (k := 5) (k' := 6) (n := 1) (m := 2) rfl rfl (by kernel_rfl) rfl ?_ ?_
        · refine o_fn 0 (d := 23) rfl Try.call24 (Changed_c (inG_ext (j := 1) rfl) w hw hs.2.2.2.1 2 (by decide) (fun j hj => by have := hs.2.2.2.2 j hj; omega) (by have := hs.2.1; omega) C e f y h''.here.down he hf) rfl ?_
          rintro _ _ ⟨b, bG, rfl, hbo, hbs, hbz, _, _, _, _, _, rfl⟩
          refine o_nil ?_
          refine d_eff (k := 6) (n := 2) (m := 2) rfl (by kernel_rfl) rfl ?_
          refine o_alloc rfl Try.zeroValue47 rfl (fun b17 => ?_)
          refine o_nil ?_
          refine d_eff (k := 8) (n := 2) (m := 2) rfl (by kernel_rfl) rfl ?_
          refine o_stores (vs := [(.slice _ _ _), (.slice _ _ _), (.slice _ _ _)]) 5 rfl Try.sizeOf47 rfl rfl rfl (by simp [Value.oneCell']) (by simp) ?_
          refine o_nil ?_
          refine d_eff (k := 9) (n := 2) (m := 2) rfl (by kernel_rfl) rfl ?_
          refine o_stores (vs := [(.slice _ _ _), (.slice _ _ _), (.slice _ _ _)]) 4 rfl Try.sizeOf47 rfl rfl rfl (by simp [Value.oneCell']) (by simp) ?_
          refine o_nil ?_
          refine d_nil (n := 2) (m := 2) (by kernel_rfl) rfl ?_
          exact ⟨⟨b17, b16, a, aG, b, bG⟩, ⟨⟨hao, has, haz⟩, ⟨hbo, hbs, hbz⟩⟩, ⟨rfl, rfl, rfl, rfl, trivial⟩, (sub_picks [1, 0, 3, 2, 0, 0] rfl)⟩
        · refine o_alloc rfl Try.zeroValue47 rfl (fun b18 => ?_)
          refine o_nil ?_
          refine d_eff (k := 5) (n := 1) (m := 2) rfl (by kernel_rfl) rfl ?_
          refine o_fn 0 (d := 23) rfl Try.call24 (Changed_c (inG_ext (j := 1) rfl) w hw hs.2.2.2.1 2 (by decide) (fun j hj => by have := hs.2.2.2.2 j hj; omega) (by have := hs.2.1; omega) C e f y h''.here.down he hf) rfl ?_
          rintro _ _ ⟨b, bG, rfl, hbo, hbs, hbz, _, _, _, _, _, rfl⟩
          refine o_nil ?_
          refine d_eff (k := 8) (n := 2) (m := 2) rfl (by kernel_rfl) rfl ?_
          refine o_stores (vs := [(.slice _ _ _), (.slice _ _ _), (.slice _ _ _)]) 5 rfl Try.sizeOf47 rfl rfl rfl (by simp [Value.oneCell']) (by simp) ?_
          refine o_nil ?_
          refine d_eff (k := 9) (n := 2) (m := 2) rfl (by kernel_rfl) rfl ?_
          refine o_stores (vs := [(.slice _ _ _), (.slice _ _ _), (.slice _ _ _)]) 4 rfl Try.sizeOf47 rfl rfl rfl (by simp [Value.oneCell']) (by simp) ?_
          refine o_nil ?_
          refine d_nil (n := 2) (m := 2) (by kernel_rfl) rfl ?_
          exact ⟨⟨b18, b16, a, aG, b, bG⟩, ⟨⟨hao, has, haz⟩, ⟨hbo, hbs, hbz⟩⟩, ⟨rfl, rfl, rfl, rfl, trivial⟩, (sub_picks [1, 0, 3, 2, 0, 0] rfl)⟩
      · refine o_alloc rfl Try.zeroValue47 rfl (fun b19 => ?_)
        refine o_nil ?_
        refine d_eff (k := 2) (n := 0) (m := 2) rfl (by kernel_rfl) rfl ?_
        refine o_fn 0 (d := 20) rfl Try.call24 (Changed_c (inG_ext (j := 0) rfl) w hw hs.2.2.2.1 2 (by decide) (fun j hj => by have := hs.2.2.2.2 j hj; omega) (by have := hs.2.1; omega) B m d x h'.here.down hm hd) rfl ?_
        rintro _ _ ⟨a, aG, rfl, hao, has, haz, _, _, _, _, _, rfl⟩
        refine o_nil ?_
        refine d_eff (k := 5) (n := 1) (m := 2) rfl (by kernel_rfl) rfl ?_
        refine o_fn 0 (d := 23) rfl Try.call24 (Changed_c (inG_ext (j := 1) rfl) w hw hs.2.2.2.1 2 (by decide) (fun j hj => by have := hs.2.2.2.2 j hj; omega) (by have := hs.2.1; omega) C e f y h''.here.down he hf) rfl ?_
        rintro _ _ ⟨b, bG, rfl, hbo, hbs, hbz, _, _, _, _, _, rfl⟩
        refine o_nil ?_
        refine d_eff (k := 8) (n := 2) (m := 2) rfl (by kernel_rfl) rfl ?_
        refine o_stores (vs := [(.slice _ _ _), (.slice _ _ _), (.slice _ _ _)]) 5 rfl Try.sizeOf47 rfl rfl rfl (by simp [Value.oneCell']) (by simp) ?_
        refine o_nil ?_
        refine d_eff (k := 9) (n := 2) (m := 2) rfl (by kernel_rfl) rfl ?_
        refine o_stores (vs := [(.slice _ _ _), (.slice _ _ _), (.slice _ _ _)]) 4 rfl Try.sizeOf47 rfl rfl rfl (by simp [Value.oneCell']) (by simp) ?_
        refine o_nil ?_
        refine d_nil (n := 2) (m := 2) (by kernel_rfl) rfl ?_
        exact ⟨⟨b19, b16, a, aG, b, bG⟩, ⟨⟨hao, has, haz⟩, ⟨hbo, hbs, hbz⟩⟩, ⟨rfl, rfl, rfl, rfl, trivial⟩, (sub_picks [1, 0, 3, 2, 0, 0] rfl)⟩
  intro u _f hU
  refine s_norm _ (by simp only [pull, picks, setG, List.cons_append, List.nil_append, List.append_nil, List.drop_succ_cons, List.drop_zero]; rfl) ?_
  obtain ⟨⟨hao, has, haz⟩, ⟨hbo, hbs, hbz⟩⟩ := hU
  refine s_seq ?_
  refine s_region ?_
  have hwz := hs.2.2.2.1
  have hwz0 := wErr_zero hwz
  have haz0 := wErr_zero haz
  have hbz0 := wErr_zero hbz
  have hK := hw.1.1
  have hKc := ck_len hwz0.1
  have hgw := hw.2.1.1
  have hga := hao.2.1.1
  have hgb := hbo.2.1.1
  have hwa : w.ks.map KR.d = u.a.ks.map KR.d := by rw [has]
  have hwb : w.ks.map KR.d = u.b.ks.map KR.d := by rw [hbs]
  have hte1 : threeErr w u.a u.b = 0 := te_zero hwz haz hbz hwa hwb
  have hte2 : threeErr w u.b u.a = 0 := te_zero hwz hbz haz hwb hwa
  have hmt := merge_turn (K := w.kn) (wo := w) (wx := u.a) (wy := u.b) (fun n i j k hi hj hk => sameLen_of hwa hwb (find_held hwz0.2.2.2 hi).2.2.2.2.2 (find_held haz0.2.2.2 hj).2.2.2.2.2 (find_held hbz0.2.2.2 hk).2.2.2.2.2) (max (max u.a.gn u.b.gn) w.gn)
  have hN : max (max u.b.gn u.a.gn) w.gn = max (max u.a.gn u.b.gn) w.gn := by omega
  have hN9 : max (max u.a.gn u.b.gn) w.gn ≤ 256 := by omega
  refine o_val rfl rfl rfl (y_loads (cs := [_, _, _]) Try.isAgg47 Try.sizeOf47 rfl rfl rfl (cels_own 5 rfl rfl)) ?_
  refine o_val rfl rfl rfl (y_loads (cs := [_, _, _]) Try.isAgg47 Try.sizeOf47 rfl rfl rfl (cels_own 2 rfl rfl)) ?_
  refine o_val rfl rfl rfl (y_loads (cs := [_, _, _]) Try.isAgg47 Try.sizeOf47 rfl rfl rfl (cels_own 3 rfl rfl)) ?_
  refine o_fn 0 (d := 28) rfl Try.call25 (Three_c w u.a u.b (hw.sub (inG_ext (j := 4) rfl)) (hao.sub (orM_sub (inG_ext (j := 4) rfl) (inG_ext (j := 0) rfl))) (hbo.sub (orM_sub (inG_ext (j := 4) rfl) (inG_ext (j := 1) rfl)))) rfl ?_
  rintro _ _ (⟨tbad1, rfl, rfl⟩ | ⟨_, tw1, tKE1, tKP1, tGE1, tIE1, tCE1, tVP1, tkl1, tA1, tC1, tE1, rfl, t11, t21, t31, t41, t51, t61, t71, t81, t91, t101, t111, rfl⟩)
  · exact absurd hte1 tbad1
  · refine o_val rfl rfl rfl (y_move (v := (.tuple #[(.agg #[(.slice _ _ _), (.slice _ _ _), (.slice _ _ _)]), (.slice _ _ _), (.int _ _)])) rfl) ?_
    refine o_val rfl rfl rfl (y_extract (v := (.agg #[(.slice _ _ _), (.slice _ _ _), (.slice _ _ _)])) rfl rfl) ?_
    refine o_val rfl rfl rfl (y_extract (v := (.slice _ _ _)) rfl rfl) ?_
    refine o_val rfl rfl rfl (y_extract (v := (.int _ _)) rfl rfl) ?_
    refine o_alloc rfl Try.zeroValue47 rfl (fun b20 => ?_)
    refine o_stores (vs := [(.slice _ _ _), (.slice _ _ _), (.slice _ _ _)]) 13 rfl Try.sizeOf47 rfl rfl rfl (by simp [Value.oneCell']) (by simp) ?_
    refine o_val rfl rfl rfl (y_assign (v := (.slice _ _ _)) rfl) ?_
    refine o_val rfl rfl rfl (y_assign (v := (.int _ _)) rfl) ?_
    refine o_nil ?_
    refine s_norm [_, _, _, _, _, _, _, _, _, [(_, .cells [(.slice _ _ _), (.slice _ _ _), (.slice _ _ _)].toArray 47 (0, 0))], [(_, .cells [(.slice _ _ _), (.slice _ _ _), (.slice _ _ _)].toArray 47 (0, 0))], _, [(_, .cells [(.slice _ _ _), (.slice _ _ _), (.slice _ _ _)].toArray 47 (0, 0))], [(_, .cells [(.slice _ _ _), (.slice _ _ _), (.slice _ _ _)].toArray 47 (0, 0))]] rfl ?_
    refine s_forget [(6, (.bool _)), (7, (.pointer _)), (8, (.pointer _)), (9, (.pointer _)), (10, (.pointer _)), (11, (.slice _ _ _)), (12, (.int _ _))] ⟨rfl, rfl, rfl, rfl, rfl, rfl, rfl, trivial⟩ (fun _f => ?_)
    refine s_seq ?_
    refine s_region ?_
    refine o_val rfl rfl rfl (y_loads (cs := [_, _, _]) Try.isAgg47 Try.sizeOf47 rfl rfl rfl (cels_own 12 rfl rfl)) ?_
    refine o_val rfl rfl rfl (y_loads (cs := [_, _, _]) Try.isAgg47 Try.sizeOf47 rfl rfl rfl (cels_own 10 rfl rfl)) ?_
    refine o_val rfl rfl rfl (y_loads (cs := [_, _, _]) Try.isAgg47 Try.sizeOf47 rfl rfl rfl (cels_own 9 rfl rfl)) ?_
    refine o_fn 0 (d := 36) rfl Try.call25 (Three_c w u.b u.a (hw.sub (inG_ext (j := 11) rfl)) (hbo.sub (orM_sub (inG_ext (j := 11) rfl) (inG_ext (j := 8) rfl))) (hao.sub (orM_sub (inG_ext (j := 11) rfl) (inG_ext (j := 7) rfl)))) rfl ?_
    rintro _ _ (⟨tbad2, rfl, rfl⟩ | ⟨_, tw2, tKE2, tKP2, tGE2, tIE2, tCE2, tVP2, tkl2, tA2, tC2, tE2, rfl, t12, t22, t32, t42, t52, t62, t72, t82, t92, t102, t112, rfl⟩)
    · exact absurd hte2 tbad2
    · refine o_val rfl rfl rfl (y_move (v := (.tuple #[(.agg #[(.slice _ _ _), (.slice _ _ _), (.slice _ _ _)]), (.slice _ _ _), (.int _ _)])) rfl) ?_
      refine o_val rfl rfl rfl (y_extract (v := (.agg #[(.slice _ _ _), (.slice _ _ _), (.slice _ _ _)])) rfl rfl) ?_
      refine o_val rfl rfl rfl (y_extract (v := (.slice _ _ _)) rfl rfl) ?_
      refine o_val rfl rfl rfl (y_extract (v := (.int _ _)) rfl rfl) ?_
      refine o_alloc rfl Try.zeroValue47 rfl (fun b21 => ?_)
      refine o_stores (vs := [(.slice _ _ _), (.slice _ _ _), (.slice _ _ _)]) 21 rfl Try.sizeOf47 rfl rfl rfl (by simp [Value.oneCell']) (by simp) ?_
      refine o_val rfl rfl rfl (y_assign (v := (.slice _ _ _)) rfl) ?_
      refine o_val rfl rfl rfl (y_assign (v := (.int _ _)) rfl) ?_
      refine o_nil ?_
      refine s_seq ?_
      refine s_seq ?_
      refine s_region ?_
      rw [hN] at t82 t92 t102
      have hcl : tkl1 = tkl2 := t101.trans (hmt.1.trans t102.symm)
      have hv1 := merged_ok hwz haz hbz hwa hwb hK.symm hN9 t71 t81 t91
      have hv2 := merged_ok hwz hbz haz hwb hwa hK.symm hN9 t72 t82 t92
      have hv10 := wErr_zero hv1
      have hv20 := wErr_zero hv2
      have hclb : tkl1.length ≤ 69888 := by have h9 := mCl_len (K := w.kn) (wo := w) (wx := u.a) (wy := u.b) (by omega) haz0.2.2.2 (max (max u.a.gn u.b.gn) w.gn); rw [t101]; omega
      have hclb2 : tkl2.length ≤ 69888 := by rw [← hcl]; exact hclb
      have hkc1 := ck_len hv10.1
      have hkc2 := ck_len hv20.1
      have hk1 : tw1.ks.length = tw1.ks.length := rfl
      have hg1 : tw1.gs.length = tw1.gs.length := rfl
      have hi1 : tw1.its.length = tw1.its.length := rfl
      have hk2 : tw2.ks.length = tw2.ks.length := rfl
      have hg2 : tw2.gs.length = tw2.gs.length := rfl
      have hi2 : tw2.its.length = tw2.its.length := rfl
      have hsame : tkl1.length = 0 → tw1.d = tw2.d := fun h0 => by have h9 := hmt.2 (t101 ▸ List.length_eq_zero_iff.1 h0); exact Prod.ext (t71.trans t72.symm) (Prod.ext (t81.trans (h9.2.trans t82.symm)) (t91.trans (h9.1.trans t92.symm)))
      refine o_fn 0 (d := 40) rfl Try.call34 (merges_c) rfl ?_
      rintro _ _ ⟨rfl, rfl⟩
      refine o_val rfl rfl rfl (y_notb rfl) ?_
      refine o_val rfl rfl rfl (y_move (v := (.bool _)) rfl) ?_
      refine o_guard_yes rfl rfl ?_
      refine o_val rfl rfl rfl (y_move (v := (.int _ _)) rfl) ?_
      refine o_guard_yes rfl rfl ?_
      refine o_split rfl rfl rfl (y_neq rfl rfl) (fun p22 => ?_) (fun p23 => ?_)
      · exact absurd rfl p22
      · refine o_val rfl rfl rfl (y_pick_f (v := (.bool _)) rfl rfl) ?_
        refine o_val rfl rfl rfl (y_move (v := (.bool _)) rfl) ?_
        refine o_guard_yes rfl rfl ?_
        refine o_val rfl rfl rfl (y_move (v := (.int _ _)) rfl) ?_
        refine o_guard_yes rfl rfl ?_
        refine o_split rfl rfl rfl (y_neq rfl rfl) (fun p24 => ?_) (fun p25 => ?_)
        · exact absurd rfl p24
        · refine o_val rfl rfl rfl (y_pick_f (v := (.bool _)) rfl rfl) ?_
          refine o_val rfl rfl rfl (y_move (v := (.bool _)) rfl) ?_
          refine o_guard_yes rfl rfl ?_
          refine o_val rfl rfl rfl (y_move (v := (.slice _ _ _)) rfl) ?_
          refine o_guard_yes rfl rfl ?_
          refine o_val rfl rfl rfl (y_move (v := (.slice _ _ _)) rfl) ?_
          refine o_guard_yes rfl rfl ?_
          refine o_fn 0 (d := 53) rfl Try.call33 (EqualCl_c tA1 tkl1.length tC1 tkl1 (t111.cels (j := 13) rfl).down rfl (by omega) tA2 tkl2.length tC2 tkl2 (t112.cels (j := 6) rfl).down rfl (by omega)) rfl ?_
          rintro _ _ ⟨rfl, rfl⟩
          refine o_guard_yes rfl rfl ?_
          refine o_split rfl rfl rfl (y_not rfl) (fun p26 => ?_) (fun p27 => ?_)
          · exact absurd (by rw [hcl]; exact ⟨rfl, fun _ _ => ⟨rfl, rfl, rfl, rfl⟩⟩) p26
          · refine o_val rfl rfl rfl (y_pick_f (v := (.bool _)) rfl rfl) ?_
            refine o_val rfl rfl rfl (y_move (v := (.bool _)) rfl) ?_
            refine o_guard_yes rfl rfl ?_
            refine o_val rfl rfl rfl (y_loads (cs := [_, _, _]) Try.isAgg47 Try.sizeOf47 rfl rfl rfl (cels_own 20 rfl rfl)) ?_
            refine o_guard_yes rfl rfl ?_
            refine o_fn 0 (d := 58) rfl Try.call26 (CheckW_c tw1 (wok_strong (its_held hv10.2.2.2 (by omega)) (by omega) (by omega) (by omega) t11 t21 t31 t41 t51 t61 (inG_ext (j := 7) rfl) (inG_ext (j := 8) rfl) (inG_ext (j := 9) rfl) (inG_ext (j := 10) rfl) (inG_ext (j := 11) rfl) (inG_ext (j := 12) rfl))) rfl ?_
            rintro _ _ ⟨rfl, rfl⟩
            refine o_guard_yes rfl rfl ?_
            refine o_split rfl rfl rfl (y_neq rfl rfl) (fun p28 => ?_) (fun p29 => ?_)
            · exact absurd hv1 p28
            · refine o_val rfl rfl rfl (y_pick_f (v := (.bool _)) rfl rfl) ?_
              refine o_val rfl rfl rfl (y_move (v := (.bool _)) rfl) ?_
              refine o_guard_yes rfl rfl ?_
              refine o_val rfl rfl rfl (y_loads (cs := [_, _, _]) Try.isAgg47 Try.sizeOf47 rfl rfl rfl (cels_own 21 rfl rfl)) ?_
              refine o_guard_yes rfl rfl ?_
              refine o_fn 0 (d := 63) rfl Try.call26 (CheckW_c tw2 (wok_strong (its_held hv20.2.2.2 (by omega)) (by omega) (by omega) (by omega) t12 t22 t32 t42 t52 t62 (inG_ext (j := 0) rfl) (inG_ext (j := 1) rfl) (inG_ext (j := 2) rfl) (inG_ext (j := 3) rfl) (inG_ext (j := 4) rfl) (inG_ext (j := 5) rfl))) rfl ?_
              rintro _ _ ⟨rfl, rfl⟩
              refine o_guard_yes rfl rfl ?_
              refine o_val rfl rfl rfl (y_neq rfl rfl) ?_
              refine o_val rfl rfl rfl (y_pick_f (v := (.bool _)) rfl rfl) ?_
              refine o_nil ?_
              refine s_forget [(6, (.bool _)), (10, (.pointer _)), (11, (.slice _ _ _)), (13, (.pointer _)), (65, (.bool _))] ⟨rfl, rfl, rfl, rfl, rfl, trivial⟩ (fun _f => ?_)
              refine s_if rfl (fun h30 => ?_) (fun h31 => ?_)
              · exact absurd hv2 h30
              · refine s_skip ?_
                refine s_seq ?_
                refine s_region ?_
                refine o_val rfl rfl rfl (y_move (v := (.slice _ _ _)) rfl) ?_
                refine o_val rfl rfl rfl (y_len Try.runUnderlying50 rfl) ?_
                refine o_split rfl rfl rfl (y_gtr rfl rfl) (fun p32 => ?_) (fun p33 => ?_)
                · have hpos := p32
                  refine o_val rfl rfl rfl (y_move (v := (.bool _)) rfl) ?_
                  refine o_guard_no rfl rfl rfl rfl rfl ?_
                  refine o_guard_no rfl rfl rfl rfl rfl ?_
                  refine o_guard_no rfl rfl rfl rfl rfl ?_
                  refine o_val rfl rfl rfl (y_pick_t (v := (.bool _)) rfl rfl) ?_
                  refine o_val rfl rfl rfl (y_assign (v := (.bool _)) rfl) ?_
                  refine o_nil ?_
                  refine s_ret ?_
                  exact ⟨_, [], res1 rfl rfl, ⟨rfl, rfl⟩, sub_picks [] rfl⟩
                · have hz0 := p33
                  refine o_val rfl rfl rfl (y_move (v := (.bool _)) rfl) ?_
                  refine o_guard_yes rfl rfl ?_
                  refine o_val rfl rfl rfl (y_loads (cs := [_, _, _]) Try.isAgg47 Try.sizeOf47 rfl rfl rfl (cels_own 20 rfl rfl)) ?_
                  refine o_guard_yes rfl rfl ?_
                  refine o_val rfl rfl rfl (y_loads (cs := [_, _, _]) Try.isAgg47 Try.sizeOf47 rfl rfl rfl (cels_own 21 rfl rfl)) ?_
                  refine o_guard_yes rfl rfl ?_
                  refine o_fn 0 (d := 72) rfl Try.call32 (SameW_c tw1 (wok_strong (its_held hv10.2.2.2 (by omega)) (by omega) (by omega) (by omega) t11 t21 t31 t41 t51 t61 (inG_ext (j := 7) rfl) (inG_ext (j := 8) rfl) (inG_ext (j := 9) rfl) (inG_ext (j := 10) rfl) (inG_ext (j := 11) rfl) (inG_ext (j := 12) rfl)) tw2 (wok_strong (its_held hv20.2.2.2 (by omega)) (by omega) (by omega) (by omega) t12 t22 t32 t42 t52 t62 (inG_ext (j := 0) rfl) (inG_ext (j := 1) rfl) (inG_ext (j := 2) rfl) (inG_ext (j := 3) rfl) (inG_ext (j := 4) rfl) (inG_ext (j := 5) rfl))) rfl ?_
                  rintro _ _ ⟨rfl, rfl⟩
                  refine o_val rfl rfl rfl (y_pick_f (v := (.bool _)) rfl rfl) ?_
                  refine o_val rfl rfl rfl (y_assign (v := (.bool _)) rfl) ?_
                  refine o_nil ?_
                  refine s_ret ?_
                  exact ⟨_, [], res1 rfl rfl, ⟨congrArg Value.bool (decide_eq_true (hsame (by omega))), rfl⟩, sub_picks [] rfl⟩

end Go.Proofs.Ytacmbiohjiogiaa.K
