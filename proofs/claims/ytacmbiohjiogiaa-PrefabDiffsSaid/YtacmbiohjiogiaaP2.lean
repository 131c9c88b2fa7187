/- Walks over the package prefab: components checked, places looked up. No condition beyond what each statement names. -/
import Derived.Test.YtacmbiohjiogiaaProg
import Derived.Test.YtacmbiohjiogiaaK19
import Derived.Test.YtacmbiohjiogiaaM1
import Derived.Test.YtacmbiohjiogiaaM2
import Derived.Test.YtacmbiohjiogiaaW1
import Derived.Test.YtacmbiohjiogiaaW2
import Derived.Test.YtacmbiohjiogiaaW3
import Derived.Test.YtacmbiohjiogiaaW4
import Derived.Test.YtacmbiohjiogiaaW6
import Derived.Test.YtacmbiohjiogiaaW7
import Derived.Test.YtacmbiohjiogiaaX1
import Derived.Test.YtacmbiohjiogiaaP1
set_option linter.unusedVariables false
set_option linter.unusedSimpArgs false
set_option maxRecDepth 100000
namespace Go.Proofs.Ytacmbiohjiogiaa.K
open Go.RowKit

theorem IndexFB_c {V : Mem} (A : Option Addr) (n c : Nat) (xs : List BR) (h : Cels V [] A (xs.flatMap encB)) (hn : xs.length = n) (hbn : n ≤ 140737488355328) (hX : ∀ x ∈ xs, PthOK V x) (fid : FuncId) (cap : List Value) (hcall : ∀ args w, (callFunc fid args).run Try.prog w = .ok (.enter fid args) w) (g0 : Grp) (p : BR → Prop) [∀ x, Decidable (p x)] (hf : ∀ (V' : Mem) (hm : MSub V V') (x : BR) (hx : PthOK V' x), CallS Try.prog fid (([.agg #[.slice x.pA x.pn x.pc, .slice x.cA x.cn x.cc]] : List Value) ++ cap).toArray V' [g0] (fun r L' => r = .bool (decide (p x)) ∧ L' = [g0])) : CallS Try.prog 193 [.slice A n c, .func (.func fid) #[] cap.toArray].toArray V [g0] (fun r L' => ∃ k, r = .int .i64 k ∧ IdxOK p xs k ∧ L' = [g0]) := by
  refine callS Try.func193 rfl rfl (fun w0 => ?_)
  refine s_seq ?_
  refine s_region ?_
  refine o_val rfl rfl rfl (y_assign (v := (.int _ _)) rfl) ?_
  refine o_nil ?_
  refine s_seq ?_
  refine s_seq ?_
  refine s_region ?_
  refine o_val rfl rfl rfl (y_move (v := (.slice _ _ _)) rfl) ?_
  refine o_val rfl rfl rfl (y_len Try.runUnderlying28 rfl) ?_
  refine o_val rfl rfl rfl (y_move (v := (.int _ _)) rfl) ?_
  refine o_nil ?_
  refine s_block ?_
  refine s_loopK (γ := Nat) [(0, (.slice _ _ _)), (1, (.func _ _ _)), (7, (.int _ _))] [_] (fun g => [(8, .int .i64 g)]) (fun g => []) (fun g => g ≤ n ∧ ∀ j, j < g → ¬ p (xs.getD j default)) (fun g => n - g) (0) ⟨rfl, rfl, rfl, rfl, trivial⟩ (sub_picks [0] rfl) ?_ ?_
  · exact ⟨Nat.zero_le _, fun j hj => absurd hj (Nat.not_lt_zero j)⟩
  intro g _f hI
  obtain ⟨hg, hall⟩ := hI
  refine s_seq ?_
  refine s_region ?_
  refine o_val rfl rfl rfl (y_lss rfl rfl) ?_
  refine o_nil ?_
  refine s_seq ?_
  refine s_if rfl (fun h1 => ?_) (fun h2 => ?_)
  · refine s_skip ?_
    refine s_seq ?_
    refine s_block ?_
    refine s_seq ?_
    refine s_region ?_
    refine o_val rfl rfl rfl (y_move (v := (.int _ _)) rfl) ?_
    refine o_val rfl rfl rfl (y_assign (v := (.int _ _)) rfl) ?_
    refine o_nil ?_
    refine s_seq ?_
    refine s_region ?_
    have hx := hX _ (getD_mem' (show g < xs.length by omega) : (xs.getD ((g : Nat) : Int).toNat default) ∈ xs)
    refine o_val rfl rfl rfl (y_move (v := (.func _ _ _)) rfl) ?_
    refine o_val rfl rfl rfl (y_move (v := (.slice _ _ _)) rfl) ?_
    refine o_val rfl rfl rfl (y_move (v := (.int _ _)) rfl) ?_
    refine o_val rfl rfl rfl (y_indexAddr Try.runUnderlying28 Try.sizeOf35 (some_at (sz := 1) encB_len (i := 0) h (by omega)) rfl rfl (by omega)) ?_
    refine o_val rfl rfl rfl (y_loads (cs := [_, _]) Try.isAgg35 Try.sizeOf35 rfl (by unfold idx; rw [Option.isSome_map]; exact some_at (sz := 1) encB_len (i := 0) h (by omega)) rfl (cels_at (sz := 2) encB_len h.here (by omega))) ?_
    refine o_fnv' 1 (d := 16) rfl hcall rfl rfl rfl (hf _ MSub.ext (xs.getD ((g : Nat) : Int).toNat default) (hx.sub MSub.ext)) ?_
    rintro _ _ ⟨rfl, rfl⟩
    refine o_nil ?_
    refine s_if rfl (fun h3 => ?_) (fun h4 => ?_)
    · have hyes := h3
      refine s_seq ?_
      refine s_region ?_
      refine o_val rfl rfl rfl (y_move (v := (.int _ _)) rfl) ?_
      refine o_val rfl rfl rfl (y_assign (v := (.int _ _)) rfl) ?_
      refine o_nil ?_
      refine s_forget [(0, (.slice _ _ _)), (1, (.func _ _ _)), (4, (.int _ _)), (7, (.int _ _)), (8, (.int _ _))] ⟨rfl, rfl, rfl, rfl, rfl, trivial⟩ (fun _f => ?_)
      refine s_ret ?_
      exact ⟨_, [_], res1 rfl rfl, ⟨_, rfl, .inr ⟨g, rfl, by omega, hyes, hall⟩, rfl⟩, sub_picks [0] rfl⟩
    · have hno := h4
      refine s_skip ?_
      refine s_region ?_
      refine o_val rfl rfl rfl (y_add rfl rfl (by simp only [inK]; omega)) ?_
      refine o_val rfl rfl rfl (y_move (v := (.int _ _)) rfl) ?_
      refine o_nil ?_
      exact ⟨g + 1, (by first | omega | (dsimp only; omega)), ⟨by omega, all_next hall hno⟩, ⟨(congrArg (Value.int .i64) (by omega)), rfl, rfl, rfl, trivial⟩, (sub_picks [0] rfl)⟩
  · refine s_exit ?_
    refine s_seq ?_
    refine s_region ?_
    refine o_val rfl rfl rfl (y_assign (v := (.int _ _)) rfl) ?_
    refine o_nil ?_
    refine s_ret ?_
    exact ⟨_, [_], res1 rfl rfl, ⟨_, rfl, .inl ⟨rfl, fun j hj => hall j (by omega)⟩, rfl⟩, sub_picks [0] rfl⟩

theorem over1_c {V : Mem} (x : BR) (hx : PthOK V x) (b : Nat) (o : OvR) (ho : OvOK V o) : CallS Try.prog 194 [.agg #[.slice x.pA x.pn x.pc, .slice x.cA x.cn x.cc], .pointer (some ⟨b, 0, none⟩)].toArray V [[(b, .cells [.slice o.A o.n o.c, .int .i64 o.kind, .int .i64 o.field, .int .i64 o.val].toArray 147 (0, 0))]] (fun r L' => r = .bool (decide (x.ps = o.ps)) ∧ L' = [[(b, .cells [.slice o.A o.n o.c, .int .i64 o.kind, .int .i64 o.field, .int .i64 o.val].toArray 147 (0, 0))]]) := by
  refine callS Try.func194 rfl rfl (fun w0 => ?_)
  refine s_seq ?_
  refine s_region ?_
  refine o_box (v := (.agg #[(.slice _ _ _), (.slice _ _ _)])) rfl rfl rfl (fun b1 => ?_)
  refine o_val rfl rfl rfl (y_assign (v := (.bool _)) rfl) ?_
  refine o_nil ?_
  refine s_seq ?_
  refine s_region ?_
  refine o_val rfl rfl rfl (y_field0 Try.runUnderlying35 rfl Try.sizeOf22 rfl rfl) ?_
  refine o_val rfl rfl rfl (y_load Try.isAgg22 rfl (cel_own 1 rfl rfl)) ?_
  refine o_val rfl rfl rfl (y_field0 Try.runUnderlying147 rfl Try.sizeOf22 rfl rfl) ?_
  refine o_val rfl rfl rfl (y_load Try.isAgg22 rfl (cel_own 0 rfl rfl)) ?_
  refine o_fn 0 (d := 8) rfl Try.call21 (EqualI_c x.pA x.pn x.pc x.ps hx.2.2.2.here.down hx.1 o.A o.n o.c o.ps ho.2.2.2.here.down ho.1 (by have := hx.2.2.1; omega)) rfl ?_
  rintro _ _ ⟨rfl, rfl⟩
  refine o_val rfl rfl rfl (y_assign (v := (.bool _)) rfl) ?_
  refine o_nil ?_
  refine s_ret ?_
  exact ⟨_, [_], res1 rfl rfl, ⟨rfl, rfl⟩, sub_picks [0] rfl⟩

theorem over2_c {V : Mem} (x : CR) (hx : COK V x) (b : Nat) (o : OvR) : CallS Try.prog 196 [.agg #[.int .i64 x.kind, .slice x.A x.n x.c], .pointer (some ⟨b, 0, none⟩)].toArray V [[(b, .cells [.slice o.A o.n o.c, .int .i64 o.kind, .int .i64 o.field, .int .i64 o.val].toArray 147 (0, 0))]] (fun r L' => r = .bool (decide (x.kind = o.kind)) ∧ L' = [[(b, .cells [.slice o.A o.n o.c, .int .i64 o.kind, .int .i64 o.field, .int .i64 o.val].toArray 147 (0, 0))]]) := by
  refine callS Try.func196 rfl rfl (fun w0 => ?_)
  refine s_seq ?_
  refine s_region ?_
  refine o_box (v := (.agg #[(.int _ _), (.slice _ _ _)])) rfl rfl rfl (fun b1 => ?_)
  refine o_val rfl rfl rfl (y_assign (v := (.bool _)) rfl) ?_
  refine o_nil ?_
  refine s_seq ?_
  refine s_region ?_
  refine o_val rfl rfl rfl (y_field0 Try.runUnderlying155 rfl Try.sizeOf3 rfl rfl) ?_
  refine o_val rfl rfl rfl (y_load Try.isAgg3 rfl (cel_own 1 rfl rfl)) ?_
  refine o_val rfl rfl rfl (y_field0 Try.runUnderlying147 rfl Try.sizeOf145 rfl rfl) ?_
  refine o_val rfl rfl rfl (y_field0 Try.runUnderlying145 rfl Try.sizeOf3 rfl rfl) ?_
  refine o_val rfl rfl rfl (y_load Try.isAgg3 rfl (cel_own 0 rfl rfl)) ?_
  refine o_val rfl rfl rfl (y_eql rfl rfl) ?_
  refine o_val rfl rfl rfl (y_assign (v := (.bool _)) rfl) ?_
  refine o_nil ?_
  refine s_ret ?_
  exact ⟨_, [_], res1 rfl rfl, ⟨rfl, rfl⟩, sub_picks [0] rfl⟩

theorem PComps_c {V : Mem} (A : Option Addr) (n c : Nat) (ks : List KR) (hks : KsOK V A n c ks) (B : Option Addr) (m d : Nat) (cs : List CR) (hcs : CsOK V B m d cs) (hh : heldP ks cs) : CallS Try.prog 128 [.slice A n c, .slice B m d].toArray V [] (fun r L' => r = .int .i64 0 ∧ L' = []) := by
  obtain ⟨hKl, hKc, hKb, hK, hKK⟩ := hks
  have hcl := hcs.1
  have hcb := hcs.2.2.1
  refine callS Try.func128 rfl rfl (fun w0 => ?_)
  refine s_seq ?_
  refine s_region ?_
  refine o_val rfl rfl rfl (y_assign (v := (.int _ _)) rfl) ?_
  refine o_nil ?_
  refine s_seq ?_
  refine s_seq ?_
  refine s_region ?_
  refine o_val rfl rfl rfl (y_move (v := (.slice _ _ _)) rfl) ?_
  refine o_val rfl rfl rfl (y_len Try.runUnderlying33 rfl) ?_
  refine o_val rfl rfl rfl (y_move (v := (.int _ _)) rfl) ?_
  refine o_nil ?_
  refine s_block ?_
  refine s_loopK (γ := Nat) [(0, (.slice _ _ _)), (1, (.slice _ _ _)), (9, (.slice _ _ _)), (10, (.int _ _))] [] (fun g => [(11, .int .i64 g)]) (fun g => []) (fun g => g ≤ m) (fun g => m - g) (0) ⟨rfl, rfl, rfl, rfl, rfl, trivial⟩ (sub_picks [] rfl) ?_ ?_
  · exact Nat.zero_le _
  intro g _f hI
  have hg := hI
  refine s_seq ?_
  refine s_region ?_
  refine o_val rfl rfl rfl (y_lss rfl rfl) ?_
  refine o_nil ?_
  refine s_seq ?_
  refine s_if rfl (fun h1 => ?_) (fun h2 => ?_)
  · refine s_skip ?_
    refine s_seq ?_
    refine s_block ?_
    refine s_seq ?_
    refine s_region ?_
    refine o_val rfl rfl rfl (y_move (v := (.int _ _)) rfl) ?_
    refine o_val rfl rfl rfl (y_indexAddr Try.runUnderlying33 Try.sizeOf155 (some_at (sz := 1) encC_len (i := 0) hcs.2.2.2.1 (by omega)) rfl rfl (by omega)) ?_
    refine o_val rfl rfl rfl (y_loads (cs := [_, _]) Try.isAgg155 Try.sizeOf155 rfl (by unfold idx; rw [Option.isSome_map]; exact some_at (sz := 1) encC_len (i := 0) hcs.2.2.2.1 (by omega)) rfl (cels_at (sz := 2) encC_len hcs.2.2.2.1.here (by omega))) ?_
    refine o_alloc rfl Try.zeroValue155 rfl (fun b3 => ?_)
    refine o_val rfl rfl rfl (y_assign (v := (.int _ _)) rfl) ?_
    refine o_stores (vs := [(.int _ _), (.slice _ _ _)]) 0 rfl Try.sizeOf155 rfl rfl rfl (by simp [Value.oneCell']) (by simp) ?_
    refine o_nil ?_
    refine s_seq ?_
    refine s_seq ?_
    refine s_region ?_
    have hcd : goodC ks (lastC cs g) (cs.getD ((g : Nat) : Int).toNat default) := hh g (by omega)
    have hcc := hcs.2.2.2.2 _ (getD_mem' (show g < cs.length by omega) : (cs.getD ((g : Nat) : Int).toNat default) ∈ cs)
    have hcg := lastC_geP hh (show g ≤ cs.length by omega)
    have hck1 := hcd.1
    have hck2 := hcd.2.1
    refine o_val rfl rfl rfl (y_field0 Try.runUnderlying155 rfl Try.sizeOf3 rfl rfl) ?_
    refine o_val rfl rfl rfl (y_load Try.isAgg3 rfl (cel_own 0 rfl rfl)) ?_
    refine o_split rfl rfl rfl (y_lss rfl rfl) (fun p4 => ?_) (fun p5 => ?_)
    · exfalso; omega
    · refine o_val rfl rfl rfl (y_move (v := (.bool _)) rfl) ?_
      refine o_guard_yes rfl rfl ?_
      refine o_val rfl rfl rfl (y_field0 Try.runUnderlying155 rfl Try.sizeOf3 rfl rfl) ?_
      refine o_guard_yes rfl rfl ?_
      refine o_val rfl rfl rfl (y_load Try.isAgg3 rfl (cel_own 0 rfl rfl)) ?_
      refine o_guard_yes rfl rfl ?_
      refine o_val rfl rfl rfl (y_move (v := (.slice _ _ _)) rfl) ?_
      refine o_guard_yes rfl rfl ?_
      refine o_val rfl rfl rfl (y_len Try.runUnderlying23 rfl) ?_
      refine o_guard_yes rfl rfl ?_
      refine o_val rfl rfl rfl (y_geq rfl rfl) ?_
      refine o_val rfl rfl rfl (y_pick_f (v := (.bool _)) rfl rfl) ?_
      refine o_nil ?_
      refine s_forget [(0, (.slice _ _ _)), (1, (.slice _ _ _)), (5, (.int _ _)), (6, (.pointer _)), (9, (.slice _ _ _)), (10, (.int _ _)), (11, (.int _ _)), (25, (.bool _))] ⟨rfl, rfl, rfl, rfl, rfl, rfl, rfl, rfl, trivial⟩ (fun _f => ?_)
      refine s_if rfl (fun h6 => ?_) (fun h7 => ?_)
      · exfalso; omega
      · refine s_skip ?_
        refine s_seq ?_
        refine s_seq ?_
        refine s_quiet (by kernel_rfl) (by kernel_rfl) ?_
        refine q_val rfl rfl rfl (y_move (v := (.int _ _)) rfl) ?_
        refine q_split rfl rfl rfl (y_gtr rfl rfl) (fun p8 => ?_) (fun p9 => ?_)
        · refine q_val rfl rfl rfl (y_move (v := (.bool _)) rfl) ?_
          refine q_guard_yes rfl rfl ?_
          refine q_val rfl rfl rfl (y_move (v := (.slice _ _ _)) rfl) ?_
          refine q_guard_yes rfl rfl ?_
          refine q_val rfl rfl rfl (y_move (v := (.int _ _)) rfl) ?_
          refine q_guard_yes rfl rfl ?_
          refine q_val rfl rfl rfl (y_sub rfl rfl (by simp only [inK]; omega)) ?_
          refine q_guard_yes rfl rfl ?_
          refine q_val rfl rfl rfl (y_indexAddr Try.runUnderlying33 Try.sizeOf155 (some_at (sz := 1) encC_len (i := 0) hcs.2.2.2.1 (by omega)) rfl rfl (by omega)) ?_
          refine q_guard_yes rfl rfl ?_
          refine q_val rfl rfl rfl (y_fieldX (F := 0) Try.runUnderlying155 rfl Try.sizeOf3 rfl (some_at (sz := 1) encC_len (i := 0) hcs.2.2.2.1 (by omega)) rfl) ?_
          refine q_guard_yes rfl rfl ?_
          refine q_val rfl rfl rfl (y_load Try.isAgg3 rfl ((cels_at (sz := 2) encC_len hcs.2.2.2.1.here (by omega)).cel' (i := 0) rfl)) ?_
          refine q_guard_yes rfl rfl ?_
          refine q_val rfl rfl rfl (y_field0 Try.runUnderlying155 rfl Try.sizeOf3 rfl rfl) ?_
          refine q_guard_yes rfl rfl ?_
          refine q_val rfl rfl rfl (y_load Try.isAgg3 rfl (cel_own 0 rfl rfl)) ?_
          refine q_guard_yes rfl rfl ?_
          refine q_val rfl rfl rfl (y_geq rfl rfl) ?_
          refine q_val rfl rfl rfl (y_pick_t (v := (.bool _)) rfl rfl) ?_
          refine q_nil ?_
          refine s_if rfl (fun h10 => ?_) (fun h11 => ?_)
          · have hl : lastC cs g = (cs.getD (((g : Nat) : Int) - 1).toNat default).kind := (by rcases g with _ | q; (· omega); (· have : (((q + 1 : Nat) : Int) - 1).toNat = q := (by omega); rw [this]; rfl))
            omega
          · refine s_skip ?_
            refine s_seq ?_
            refine s_drawn 0 (by kernel_rfl) ?_
            refine d_val (i := 0) rfl (by kernel_rfl) (by kernel_rfl) (by kernel_rfl) rfl rfl rfl (y_move (v := (.slice _ _ _)) rfl) ?_
            refine d_val (i := 1) rfl (by kernel_rfl) (by kernel_rfl) (by kernel_rfl) rfl rfl rfl (y_field0 Try.runUnderlying155 rfl Try.sizeOf3 rfl rfl) ?_
            refine d_val (i := 2) rfl (by kernel_rfl) (by kernel_rfl) (by kernel_rfl) rfl rfl rfl (y_load Try.isAgg3 rfl (cel_own 0 rfl rfl)) ?_
            refine d_val (i := 3) rfl (by kernel_rfl) (by kernel_rfl) (by kernel_rfl) rfl rfl rfl (y_indexAddr Try.runUnderlying23 Try.sizeOf58 (some_at (sz := 1) encK_len (i := 0) hK (by omega)) rfl rfl (by omega)) ?_
            refine d_val (i := 4) rfl (by kernel_rfl) (by kernel_rfl) (by kernel_rfl) rfl rfl rfl (y_loads (cs := [_, _]) Try.isAgg58 Try.sizeOf58 rfl (by unfold idx; rw [Option.isSome_map]; exact some_at (sz := 1) encK_len (i := 0) hK (by omega)) rfl (cels_at (sz := 2) encK_len hK.here (by omega))) ?_
            refine d_val (i := 5) rfl (by kernel_rfl) (by kernel_rfl) (by kernel_rfl) rfl rfl rfl (y_field0 Try.runUnderlying155 rfl Try.sizeOf22 rfl rfl) ?_
            refine d_val (i := 6) rfl (by kernel_rfl) (by kernel_rfl) (by kernel_rfl) rfl rfl rfl (y_load Try.isAgg22 rfl (cel_own 0 rfl rfl)) ?_
            refine d_eff (k := 7) (n := 0) (m := 1) rfl (by kernel_rfl) rfl ?_
            refine o_fn 0 (d := 47) rfl Try.call143 (FitK_c (ks.getD (cs.getD ((g : Nat) : Int).toNat default).kind.toNat default) (KOK.sub (hKK _ (getD_mem' (show (cs.getD ((g : Nat) : Int).toNat default).kind.toNat < ks.length by omega))) MSub.ext) (cs.getD ((g : Nat) : Int).toNat default).A (cs.getD ((g : Nat) : Int).toNat default).n (cs.getD ((g : Nat) : Int).toNat default).c (cs.getD ((g : Nat) : Int).toNat default).vs hcc.2.2.2.here.down hcc.1 (by have := hcc.2.2.1; omega)) rfl ?_
            rintro _ _ (⟨hbad, rfl, rfl⟩ | ⟨hgood, B, E, rfl, hbo, hbS, rfl⟩)
            · exact absurd (hcc.1 ▸ hcd.2.2.1) hbad
            · have hfl2 : (fitV (ks.getD (cs.getD ((g : Nat) : Int).toNat default).kind.toNat default).fs (cs.getD ((g : Nat) : Int).toNat default).vs).length = (cs.getD ((g : Nat) : Int).toNat default).n := by simpa using hbo.len
              refine o_nil ?_
              refine d_val (i := 8) rfl (by kernel_rfl) (by kernel_rfl) (by kernel_rfl) rfl rfl rfl (y_move (v := (.tuple #[(.slice _ _ _), (.int _ _)])) rfl) ?_
              refine d_val (i := 9) rfl (by kernel_rfl) (by kernel_rfl) (by kernel_rfl) rfl rfl rfl (y_extract (v := (.slice _ _ _)) rfl rfl) ?_
              refine d_val (i := 10) rfl (by kernel_rfl) (by kernel_rfl) (by kernel_rfl) rfl rfl rfl (y_extract (v := (.int _ _)) rfl rfl) ?_
              refine d_val (i := 11) rfl (by kernel_rfl) (by kernel_rfl) (by kernel_rfl) rfl rfl rfl (y_assign (v := (.slice _ _ _)) rfl) ?_
              refine d_val (i := 12) rfl (by kernel_rfl) (by kernel_rfl) (by kernel_rfl) rfl rfl rfl (y_assign (v := (.int _ _)) rfl) ?_
              refine d_nil (n := 1) (m := 1) (by kernel_rfl) rfl ?_
              refine s_forget [(0, (.slice _ _ _)), (1, (.slice _ _ _)), (6, (.pointer _)), (7, (.slice _ _ _)), (8, (.int _ _)), (9, (.slice _ _ _)), (10, (.int _ _)), (11, (.int _ _))] ⟨rfl, rfl, rfl, rfl, rfl, rfl, rfl, rfl, trivial⟩ (fun _f => ?_)
              refine s_seq ?_
              refine s_seq ?_
              refine s_region ?_
              refine o_val rfl rfl rfl (y_move (v := (.int _ _)) rfl) ?_
              refine o_val rfl rfl rfl (y_neq rfl rfl) ?_
              refine o_nil ?_
              refine s_if rfl (fun h12 => ?_) (fun h13 => ?_)
              · exact absurd rfl h12
              · refine s_skip ?_
                refine s_seq ?_
                refine s_region ?_
                refine o_val rfl rfl rfl (y_move (v := (.slice _ _ _)) rfl) ?_
                refine o_val rfl rfl rfl (y_field0 Try.runUnderlying155 rfl Try.sizeOf22 rfl rfl) ?_
                refine o_val rfl rfl rfl (y_load Try.isAgg22 rfl (cel_own 1 rfl rfl)) ?_
                refine o_fn 0 (d := 56) rfl Try.call21 (EqualI_c B (cs.getD ((g : Nat) : Int).toNat default).n (cs.getD ((g : Nat) : Int).toNat default).n (fitV (ks.getD (cs.getD ((g : Nat) : Int).toNat default).kind.toNat default).fs (cs.getD ((g : Nat) : Int).toNat default).vs) (hbo.cels (j := 0) rfl).down hfl2 (cs.getD ((g : Nat) : Int).toNat default).A (cs.getD ((g : Nat) : Int).toNat default).n (cs.getD ((g : Nat) : Int).toNat default).c (cs.getD ((g : Nat) : Int).toNat default).vs hcc.2.2.2.here.down hcc.1 (by have := hcc.2.2.1; omega)) rfl ?_
                rintro _ _ ⟨rfl, rfl⟩
                refine o_val rfl rfl rfl (y_not rfl) ?_
                refine o_nil ?_
                refine s_if rfl (fun h14 => ?_) (fun h15 => ?_)
                · exact absurd hcd.2.2.2 h14
                · refine s_skip ?_
                  refine s_region ?_
                  refine o_val rfl rfl rfl (y_add rfl rfl (by simp only [inK]; omega)) ?_
                  refine o_val rfl rfl rfl (y_move (v := (.int _ _)) rfl) ?_
                  refine o_nil ?_
                  exact ⟨g + 1, (by first | omega | (dsimp only; omega)), by omega, ⟨(congrArg (Value.int .i64) (by omega)), rfl, rfl, rfl, rfl, trivial⟩, (sub_picks [] rfl)⟩
        · refine q_val rfl rfl rfl (y_move (v := (.bool _)) rfl) ?_
          refine q_guard_no rfl rfl rfl rfl rfl ?_
          refine q_guard_no rfl rfl rfl rfl rfl ?_
          refine q_guard_no rfl rfl rfl rfl rfl ?_
          refine q_guard_no rfl rfl rfl rfl rfl ?_
          refine q_guard_no rfl rfl rfl rfl rfl ?_
          refine q_guard_no rfl rfl rfl rfl rfl ?_
          refine q_guard_no rfl rfl rfl rfl rfl ?_
          refine q_guard_no rfl rfl rfl rfl rfl ?_
          refine q_guard_no rfl rfl rfl rfl rfl ?_
          refine q_val rfl rfl rfl (y_pick_f (v := (.bool _)) rfl rfl) ?_
          refine q_nil ?_
          refine s_else rfl ?_
          refine s_skip ?_
          refine s_seq ?_
          refine s_drawn 0 (by kernel_rfl) ?_
          refine d_val (i := 0) rfl (by kernel_rfl) (by kernel_rfl) (by kernel_rfl) rfl rfl rfl (y_move (v := (.slice _ _ _)) rfl) ?_
          refine d_val (i := 1) rfl (by kernel_rfl) (by kernel_rfl) (by kernel_rfl) rfl rfl rfl (y_field0 Try.runUnderlying155 rfl Try.sizeOf3 rfl rfl) ?_
          refine d_val (i := 2) rfl (by kernel_rfl) (by kernel_rfl) (by kernel_rfl) rfl rfl rfl (y_load Try.isAgg3 rfl (cel_own 0 rfl rfl)) ?_
          refine d_val (i := 3) rfl (by kernel_rfl) (by kernel_rfl) (by kernel_rfl) rfl rfl rfl (y_indexAddr Try.runUnderlying23 Try.sizeOf58 (some_at (sz := 1) encK_len (i := 0) hK (by omega)) rfl rfl (by omega)) ?_
          refine d_val (i := 4) rfl (by kernel_rfl) (by kernel_rfl) (by kernel_rfl) rfl rfl rfl (y_loads (cs := [_, _]) Try.isAgg58 Try.sizeOf58 rfl (by unfold idx; rw [Option.isSome_map]; exact some_at (sz := 1) encK_len (i := 0) hK (by omega)) rfl (cels_at (sz := 2) encK_len hK.here (by omega))) ?_
          refine d_val (i := 5) rfl (by kernel_rfl) (by kernel_rfl) (by kernel_rfl) rfl rfl rfl (y_field0 Try.runUnderlying155 rfl Try.sizeOf22 rfl rfl) ?_
          refine d_val (i := 6) rfl (by kernel_rfl) (by kernel_rfl) (by kernel_rfl) rfl rfl rfl (y_load Try.isAgg22 rfl (cel_own 0 rfl rfl)) ?_
          refine d_eff (k := 7) (n := 0) (m := 1) rfl (by kernel_rfl) rfl ?_
          refine o_fn 0 (d := 47) rfl Try.call143 (FitK_c (ks.getD (cs.getD ((g : Nat) : Int).toNat default).kind.toNat default) (KOK.sub (hKK _ (getD_mem' (show (cs.getD ((g : Nat) : Int).toNat default).kind.toNat < ks.length by omega))) MSub.ext) (cs.getD ((g : Nat) : Int).toNat default).A (cs.getD ((g : Nat) : Int).toNat default).n (cs.getD ((g : Nat) : Int).toNat default).c (cs.getD ((g : Nat) : Int).toNat default).vs hcc.2.2.2.here.down hcc.1 (by have := hcc.2.2.1; omega)) rfl ?_
          rintro _ _ (⟨hbad, rfl, rfl⟩ | ⟨hgood, B, E, rfl, hbo, hbS, rfl⟩)
          · exact absurd (hcc.1 ▸ hcd.2.2.1) hbad
          · have hfl2 : (fitV (ks.getD (cs.getD ((g : Nat) : Int).toNat default).kind.toNat default).fs (cs.getD ((g : Nat) : Int).toNat default).vs).length = (cs.getD ((g : Nat) : Int).toNat default).n := by simpa using hbo.len
            refine o_nil ?_
            refine d_val (i := 8) rfl (by kernel_rfl) (by kernel_rfl) (by kernel_rfl) rfl rfl rfl (y_move (v := (.tuple #[(.slice _ _ _), (.int _ _)])) rfl) ?_
            refine d_val (i := 9) rfl (by kernel_rfl) (by kernel_rfl) (by kernel_rfl) rfl rfl rfl (y_extract (v := (.slice _ _ _)) rfl rfl) ?_
            refine d_val (i := 10) rfl (by kernel_rfl) (by kernel_rfl) (by kernel_rfl) rfl rfl rfl (y_extract (v := (.int _ _)) rfl rfl) ?_
            refine d_val (i := 11) rfl (by kernel_rfl) (by kernel_rfl) (by kernel_rfl) rfl rfl rfl (y_assign (v := (.slice _ _ _)) rfl) ?_
            refine d_val (i := 12) rfl (by kernel_rfl) (by kernel_rfl) (by kernel_rfl) rfl rfl rfl (y_assign (v := (.int _ _)) rfl) ?_
            refine d_nil (n := 1) (m := 1) (by kernel_rfl) rfl ?_
            refine s_forget [(0, (.slice _ _ _)), (1, (.slice _ _ _)), (6, (.pointer _)), (7, (.slice _ _ _)), (8, (.int _ _)), (9, (.slice _ _ _)), (10, (.int _ _)), (11, (.int _ _))] ⟨rfl, rfl, rfl, rfl, rfl, rfl, rfl, rfl, trivial⟩ (fun _f => ?_)
            refine s_seq ?_
            refine s_seq ?_
            refine s_region ?_
            refine o_val rfl rfl rfl (y_move (v := (.int _ _)) rfl) ?_
            refine o_val rfl rfl rfl (y_neq rfl rfl) ?_
            refine o_nil ?_
            refine s_if rfl (fun h16 => ?_) (fun h17 => ?_)
            · exact absurd rfl h16
            · refine s_skip ?_
              refine s_seq ?_
              refine s_region ?_
              refine o_val rfl rfl rfl (y_move (v := (.slice _ _ _)) rfl) ?_
              refine o_val rfl rfl rfl (y_field0 Try.runUnderlying155 rfl Try.sizeOf22 rfl rfl) ?_
              refine o_val rfl rfl rfl (y_load Try.isAgg22 rfl (cel_own 1 rfl rfl)) ?_
              refine o_fn 0 (d := 56) rfl Try.call21 (EqualI_c B (cs.getD ((g : Nat) : Int).toNat default).n (cs.getD ((g : Nat) : Int).toNat default).n (fitV (ks.getD (cs.getD ((g : Nat) : Int).toNat default).kind.toNat default).fs (cs.getD ((g : Nat) : Int).toNat default).vs) (hbo.cels (j := 0) rfl).down hfl2 (cs.getD ((g : Nat) : Int).toNat default).A (cs.getD ((g : Nat) : Int).toNat default).n (cs.getD ((g : Nat) : Int).toNat default).c (cs.getD ((g : Nat) : Int).toNat default).vs hcc.2.2.2.here.down hcc.1 (by have := hcc.2.2.1; omega)) rfl ?_
              rintro _ _ ⟨rfl, rfl⟩
              refine o_val rfl rfl rfl (y_not rfl) ?_
              refine o_nil ?_
              refine s_if rfl (fun h18 => ?_) (fun h19 => ?_)
              · exact absurd hcd.2.2.2 h18
              · refine s_skip ?_
                refine s_region ?_
                refine o_val rfl rfl rfl (y_add rfl rfl (by simp only [inK]; omega)) ?_
                refine o_val rfl rfl rfl (y_move (v := (.int _ _)) rfl) ?_
                refine o_nil ?_
                exact ⟨g + 1, (by first | omega | (dsimp only; omega)), by omega, ⟨(congrArg (Value.int .i64) (by omega)), rfl, rfl, rfl, rfl, trivial⟩, (sub_picks [] rfl)⟩
  · refine s_exit ?_
    refine s_seq ?_
    refine s_region ?_
    refine o_val rfl rfl rfl (y_assign (v := (.int _ _)) rfl) ?_
    refine o_nil ?_
    refine s_ret ?_
    exact ⟨_, [], res1 rfl rfl, ⟨rfl, rfl⟩, sub_picks [] rfl⟩

end Go.Proofs.Ytacmbiohjiogiaa.K
