/- Walks over the library's sorting of few numbers, and the package delay. No condition beyond what each statement names. -/
import Derived.Test.YtmdbmeilmhjjaaaProg
import Derived.Test.YtmdbmeilmhjjaaaK12
import Derived.Test.YtmdbmeilmhjjaaaB9
import Derived.Test.YtmdbmeilmhjjaaaY1
set_option linter.unusedVariables false
set_option linter.unusedSimpArgs false
set_option maxRecDepth 100000
namespace Go.Proofs.Ytmdbmeilmhjjaaa.K
open Go.RowKit

theorem isNaN_c {V : Mem} (a : Int) : CallS Try.prog 34 [.int .i64 a].toArray V [] (fun r L' => r = .bool false ∧ L' = []) := by
  refine callS Try.func34 rfl rfl (fun w0 => ?_)
  refine s_seq ?_
  refine s_region ?_
  refine o_val rfl rfl rfl (y_assign (v := (.bool _)) rfl) ?_
  refine o_nil ?_
  refine s_seq ?_
  refine s_region ?_
  refine o_val rfl rfl rfl (y_move (v := (.int _ _)) rfl) ?_
  refine o_val rfl rfl rfl (y_move (v := (.int _ _)) rfl) ?_
  refine o_val rfl rfl rfl (y_neq rfl rfl) ?_
  refine o_val rfl rfl rfl (y_assign (v := (.bool _)) rfl) ?_
  refine o_nil ?_
  refine s_ret ?_
  exact ⟨_, _, res1 rfl rfl, ⟨congrArg Value.bool (decide_eq_false (fun h => h rfl)), rfl⟩, sub_front ⟨_, rfl⟩⟩

theorem Less_c {V : Mem} (a b : Int) : CallS Try.prog 24 [.int .i64 a, .int .i64 b].toArray V [] (fun r L' => r = .bool (decide (a < b)) ∧ L' = []) := by
  refine callS Try.func24 rfl rfl (fun w0 => ?_)
  refine s_seq ?_
  refine s_region ?_
  refine o_val rfl rfl rfl (y_assign (v := (.bool _)) rfl) ?_
  refine o_nil ?_
  refine s_seq ?_
  refine s_region ?_
  refine o_val rfl rfl rfl (y_move (v := (.int _ _)) rfl) ?_
  refine o_fn 0 (d := 6) rfl Try.call34 (isNaN_c _) rfl ?_
  rintro _ _ ⟨rfl, rfl⟩
  refine o_val rfl rfl rfl (y_move (v := (.bool _)) rfl) ?_
  refine o_guard_no rfl rfl rfl rfl rfl ?_
  refine o_guard_no rfl rfl rfl rfl rfl ?_
  refine o_guard_no rfl rfl rfl rfl rfl ?_
  refine o_val rfl rfl rfl (y_pick_f (v := (.bool _)) rfl rfl) ?_
  refine o_val rfl rfl rfl (y_move (v := (.bool _)) rfl) ?_
  refine o_guard_yes rfl rfl ?_
  refine o_val rfl rfl rfl (y_move (v := (.int _ _)) rfl) ?_
  refine o_guard_yes rfl rfl ?_
  refine o_val rfl rfl rfl (y_move (v := (.int _ _)) rfl) ?_
  refine o_guard_yes rfl rfl ?_
  refine o_val rfl rfl rfl (y_lss rfl rfl) ?_
  refine o_val rfl rfl rfl (y_pick_f (v := (.bool _)) rfl rfl) ?_
  refine o_val rfl rfl rfl (y_assign (v := (.bool _)) rfl) ?_
  refine o_nil ?_
  refine s_forget [(4, (.bool _))] ⟨rfl, trivial⟩ (fun _f => ?_)
  refine s_ret ?_
  exact ⟨_, _, res1 rfl rfl, ⟨rfl, rfl⟩, sub_front ⟨_, rfl⟩⟩

theorem insSort_c {V : Mem} (A : Option Addr) (n c : Nat) (xs : List Int) (E : Grp) (hos : OS A n c 3 1 ((xs).map (.int .i64)) E) (hb : n ≤ 12) : CallS Try.prog 18 [.slice A n c, .int .i64 0, .int .i64 n].toArray V [E] (fun r L' => r = .tuple #[] ∧ ∃ zs E', Sorts xs zs ∧ OS A n c 3 1 ((zs).map (.int .i64)) E' ∧ L' = [E']) := by
  have hxl : xs.length = n := by simpa using hos.len
  refine callS Try.func18 rfl rfl (fun w0 => ?_)
  refine s_seq ?_
  refine s_region ?_
  refine o_val rfl rfl rfl (y_move (v := (.int _ _)) rfl) ?_
  refine o_val rfl rfl rfl (y_add rfl rfl (by simp only [inK]; omega)) ?_
  refine o_val rfl rfl rfl (y_assign (v := (.int _ _)) rfl) ?_
  refine o_nil ?_
  refine s_block ?_
  refine s_loop (γ := G1 × List Int) (fun g => [(0, .slice A n c), (1, .int .i64 0), (2, .int .i64 n), (6, .int .i64 g.1.i)]) (fun g => [g.1.E]) (fun g => 1 ≤ g.1.i ∧ g.2.Perm xs ∧ SrtTo g.2 g.1.i ∧ OS A n c 3 1 ((g.2).map (.int .i64)) g.1.E) (fun g => n - g.1.i) ((G1.mk 1 none 0 0 E, xs)) ?_ ⟨rfl, rfl, rfl, rfl, trivial⟩ (sub_front ⟨_, rfl⟩) ?_
  · exact ⟨Nat.le_refl _, List.Perm.refl _, fun p q h1 h2 => by dsimp only at h2; omega, hos⟩
  · intro g _f hI
    obtain ⟨hi, hp, hs, ho0⟩ := hI
    have hgl := hp.length_eq
    refine s_seq ?_
    refine s_seq ?_
    refine s_region ?_
    refine o_val rfl rfl rfl (y_move (v := (.int _ _)) rfl) ?_
    refine o_val rfl rfl rfl (y_move (v := (.int _ _)) rfl) ?_
    refine o_val rfl rfl rfl (y_lss rfl rfl) ?_
    refine o_nil ?_
    refine s_if rfl (fun h1 => ?_) (fun h2 => ?_)
    · refine s_skip ?_
      refine s_seq ?_
      refine s_block ?_
      refine s_seq ?_
      refine s_region ?_
      refine o_val rfl rfl rfl (y_move (v := (.int _ _)) rfl) ?_
      refine o_val rfl rfl rfl (y_assign (v := (.int _ _)) rfl) ?_
      refine o_nil ?_
      refine s_block ?_
      refine s_loop (γ := G1 × List Int) (fun u => [(0, .slice A n c), (1, .int .i64 0), (2, .int .i64 n), (6, .int .i64 g.1.i), (7, .int .i64 u.1.i)]) (fun u => [u.1.E]) (fun u => u.1.i ≤ g.1.i ∧ u.2.Perm xs ∧ SrtBut u.2 (g.1.i + 1) u.1.i ∧ OS A n c 3 1 ((u.2).map (.int .i64)) u.1.E) (fun u => u.1.i) ((G1.mk g.1.i none 0 0 g.1.E, g.2)) ?_ ⟨rfl, rfl, rfl, rfl, rfl, trivial⟩ (sub_front ⟨_, rfl⟩) ?_
      · exact ⟨Nat.le_refl _, hp, srt_but hs, ho0⟩
      · intro u _f hJ
        obtain ⟨hu, hp', hs', ho1⟩ := hJ
        have hul := hp'.length_eq
        refine s_seq ?_
        refine s_seq ?_
        refine s_quiet (by kernel_rfl) (by kernel_rfl) ?_
        refine q_val rfl rfl rfl (y_move (v := (.int _ _)) rfl) ?_
        refine q_val rfl rfl rfl (y_move (v := (.int _ _)) rfl) ?_
        refine q_split rfl rfl rfl (y_gtr rfl rfl) (fun p3 => ?_) (fun p4 => ?_)
        · have hj0 := p3
          refine q_val rfl rfl rfl (y_move (v := (.bool _)) rfl) ?_
          refine q_guard_yes rfl rfl ?_
          refine q_val rfl rfl rfl (y_move (v := (.slice _ _ _)) rfl) ?_
          refine q_guard_yes rfl rfl ?_
          refine q_val rfl rfl rfl (y_move (v := (.int _ _)) rfl) ?_
          refine q_guard_yes rfl rfl ?_
          refine q_val rfl rfl rfl (y_index1 Try.runUnderlying22 Try.sizeOf3 (ho1.some_of (by omega)) rfl rfl (by omega)) ?_
          refine q_guard_yes rfl rfl ?_
          refine q_val rfl rfl rfl (y_load Try.isAgg3 rfl (cel_int (ho1.cels (j := 0) rfl) (by omega))) ?_
          refine q_guard_yes rfl rfl ?_
          refine q_val rfl rfl rfl (y_move (v := (.slice _ _ _)) rfl) ?_
          refine q_guard_yes rfl rfl ?_
          refine q_val rfl rfl rfl (y_move (v := (.int _ _)) rfl) ?_
          refine q_guard_yes rfl rfl ?_
          refine q_val rfl rfl rfl (y_sub rfl rfl (by simp only [inK]; omega)) ?_
          refine q_guard_yes rfl rfl ?_
          refine q_val rfl rfl rfl (y_index1 Try.runUnderlying22 Try.sizeOf3 (ho1.some_of (by omega)) rfl rfl (by omega)) ?_
          refine q_guard_yes rfl rfl ?_
          refine q_val rfl rfl rfl (y_load Try.isAgg3 rfl (cel_int (ho1.cels (j := 0) rfl) (by omega))) ?_
          refine q_guard_yes rfl rfl ?_
          refine q_call rfl rfl rfl (run_call (vs := [(.int _ _), (.int _ _)]) Try.call24 rfl) ((Less_c _ _).quiet) ?_
          refine q_val rfl rfl rfl (y_pick_t (v := (.bool _)) rfl rfl) ?_
          refine q_nil ?_
          refine s_if rfl (fun h5 => ?_) (fun h6 => ?_)
          · have hlt := h5
            refine s_skip ?_
            refine s_seq ?_
            refine s_block ?_
            refine s_drawn 1 (by kernel_rfl) ?_
            refine d_val (i := 0) rfl (by kernel_rfl) (by kernel_rfl) (by kernel_rfl) rfl rfl rfl (y_move (v := (.slice _ _ _)) rfl) ?_
            refine d_val (i := 1) rfl (by kernel_rfl) (by kernel_rfl) (by kernel_rfl) rfl rfl rfl (y_move (v := (.int _ _)) rfl) ?_
            refine d_val (i := 2) rfl (by kernel_rfl) (by kernel_rfl) (by kernel_rfl) rfl rfl rfl (y_move (v := (.slice _ _ _)) rfl) ?_
            refine d_val (i := 3) rfl (by kernel_rfl) (by kernel_rfl) (by kernel_rfl) rfl rfl rfl (y_move (v := (.int _ _)) rfl) ?_
            refine d_val (i := 4) rfl (by kernel_rfl) (by kernel_rfl) (by kernel_rfl) rfl rfl rfl (y_sub rfl rfl (by simp only [inK]; omega)) ?_
            refine d_val (i := 5) rfl (by kernel_rfl) (by kernel_rfl) (by kernel_rfl) rfl rfl rfl (y_move (v := (.slice _ _ _)) rfl) ?_
            refine d_val (i := 6) rfl (by kernel_rfl) (by kernel_rfl) (by kernel_rfl) rfl rfl rfl (y_move (v := (.int _ _)) rfl) ?_
            refine d_val (i := 7) rfl (by kernel_rfl) (by kernel_rfl) (by kernel_rfl) rfl rfl rfl (y_sub rfl rfl (by simp only [inK]; omega)) ?_
            refine d_val (i := 8) rfl (by kernel_rfl) (by kernel_rfl) (by kernel_rfl) rfl rfl rfl (y_index1 Try.runUnderlying22 Try.sizeOf3 (ho1.some_of (by omega)) rfl rfl (by omega)) ?_
            refine d_val (i := 10) rfl (by kernel_rfl) (by kernel_rfl) (by kernel_rfl) rfl rfl rfl (y_move (v := (.slice _ _ _)) rfl) ?_
            refine d_val (i := 11) rfl (by kernel_rfl) (by kernel_rfl) (by kernel_rfl) rfl rfl rfl (y_move (v := (.int _ _)) rfl) ?_
            refine d_val (i := 12) rfl (by kernel_rfl) (by kernel_rfl) (by kernel_rfl) rfl rfl rfl (y_index1 Try.runUnderlying22 Try.sizeOf3 (ho1.some_of (by omega)) rfl rfl (by omega)) ?_
            refine d_now (i := 9) [(13, _, _)] rfl (by kernel_rfl) (by kernel_rfl) (by kernel_rfl) rfl rfl rfl (y_load Try.isAgg3 rfl (cel_int (ho1.cels (j := 0) rfl) (by omega))) ⟨⟨rfl, rfl, (y_load Try.isAgg3 rfl (cel_int (ho1.cels (j := 0) rfl) (by omega)))⟩, trivial⟩ ?_
            refine d_now (i := 13) [] rfl (by kernel_rfl) (by kernel_rfl) (by kernel_rfl) rfl rfl rfl (y_load Try.isAgg3 rfl (cel_int (ho1.cels (j := 0) rfl) (by omega))) trivial ?_
            refine d_val (i := 14) rfl (by kernel_rfl) (by kernel_rfl) (by kernel_rfl) rfl rfl rfl (y_index1 Try.runUnderlying22 Try.sizeOf3 (ho1.some_of (by omega)) rfl rfl (by omega)) ?_
            refine d_eff (k := 15) (n := 0) (m := 0) rfl (by kernel_rfl) rfl ?_
            refine o_store_os (vs := [(.int _ _)]) 0 rfl ho1 Try.sizeOf3 rfl rfl rfl (by simp [Value.oneCell']) (by simp) (by (try simp); omega) (fun E7 ho8 => ?_)
            have ho9 := os_lay_int ho8 (by (try simp); omega)
            clear ho8
            refine o_nil ?_
            refine d_val (i := 16) rfl (by kernel_rfl) (by kernel_rfl) (by kernel_rfl) rfl rfl rfl (y_index1 Try.runUnderlying22 Try.sizeOf3 (ho9.some_of (by omega)) rfl rfl (by omega)) ?_
            refine d_eff (k := 17) (n := 0) (m := 0) rfl (by kernel_rfl) rfl ?_
            refine o_store_os (vs := [(.int _ _)]) 0 rfl ho9 Try.sizeOf3 rfl rfl rfl (by simp [Value.oneCell']) (by simp) (by (try simp); omega) (fun E10 ho11 => ?_)
            have ho12 := os_lay_int ho11 (by (try simp); omega)
            clear ho11
            refine o_nil ?_
            refine d_nil (n := 0) (m := 0) (by kernel_rfl) rfl ?_
            refine s_region ?_
            refine o_val rfl rfl rfl (y_move (v := (.int _ _)) rfl) ?_
            refine o_val rfl rfl rfl (y_sub rfl rfl (by simp only [inK]; omega)) ?_
            refine o_val rfl rfl rfl (y_assign (v := (.int _ _)) rfl) ?_
            refine o_nil ?_
            have e : ((u.1.i : Int) - 1).toNat = u.1.i - 1 := by omega
            have e2 : ((u.1.i : Int)).toNat = u.1.i := by omega
            rw [e, e2] at hlt
            rw [e, e2] at ho12
            exact ⟨(G1.mk (u.1.i - 1) none 0 0 E10, swp u.2 u.1.i), (by first | omega | (dsimp only; omega)), ⟨by dsimp only; omega, (swp_perm (by omega)).trans hp', swp_but (by omega) (by omega) (by omega) hs' (by omega), ho12⟩, ⟨rfl, rfl, rfl, rfl, (congrArg (Value.int _) (by dsimp only; omega)), trivial⟩, sub_front ⟨_, rfl⟩⟩
          · have hge := h6
            refine s_exit ?_
            refine s_region ?_
            refine o_val rfl rfl rfl (y_move (v := (.int _ _)) rfl) ?_
            refine o_val rfl rfl rfl (y_add rfl rfl (by simp only [inK]; omega)) ?_
            refine o_val rfl rfl rfl (y_assign (v := (.int _ _)) rfl) ?_
            refine o_nil ?_
            exact ⟨(G1.mk (g.1.i + 1) none 0 0 u.1.E, u.2), (by first | omega | (dsimp only; omega)), ⟨by dsimp only; omega, hp', but_done hs' (.inr (by
                have e : ((u.1.i : Int) - 1).toNat = u.1.i - 1 := by omega
                have e2 : ((u.1.i : Int)).toNat = u.1.i := by omega
                rw [e, e2] at hge
                show u.2.getD (u.1.i - 1) 0 ≤ u.2.getD u.1.i 0
                omega)), ho1⟩, ⟨rfl, rfl, rfl, (congrArg (Value.int _) (by dsimp only; omega)), trivial⟩, sub_front ⟨_, rfl⟩⟩
        · have hj0 := p4
          refine q_val rfl rfl rfl (y_move (v := (.bool _)) rfl) ?_
          refine q_guard_no rfl rfl rfl rfl rfl ?_
          refine q_guard_no rfl rfl rfl rfl rfl ?_
          refine q_guard_no rfl rfl rfl rfl rfl ?_
          refine q_guard_no rfl rfl rfl rfl rfl ?_
          refine q_guard_no rfl rfl rfl rfl rfl ?_
          refine q_guard_no rfl rfl rfl rfl rfl ?_
          refine q_guard_no rfl rfl rfl rfl rfl ?_
          refine q_guard_no rfl rfl rfl rfl rfl ?_
          refine q_guard_no rfl rfl rfl rfl rfl ?_
          refine q_guard_no rfl rfl rfl rfl rfl ?_
          refine q_val rfl rfl rfl (y_pick_f (v := (.bool _)) rfl rfl) ?_
          refine q_nil ?_
          refine s_else rfl ?_
          refine s_exit ?_
          refine s_region ?_
          refine o_val rfl rfl rfl (y_move (v := (.int _ _)) rfl) ?_
          refine o_val rfl rfl rfl (y_add rfl rfl (by simp only [inK]; omega)) ?_
          refine o_val rfl rfl rfl (y_assign (v := (.int _ _)) rfl) ?_
          refine o_nil ?_
          exact ⟨(G1.mk (g.1.i + 1) none 0 0 u.1.E, u.2), (by first | omega | (dsimp only; omega)), ⟨by dsimp only; omega, hp', but_done hs' (.inl (by omega)), ho1⟩, ⟨rfl, rfl, rfl, (congrArg (Value.int _) (by dsimp only; omega)), trivial⟩, sub_front ⟨_, rfl⟩⟩
    · refine s_exit ?_
      exact ⟨_, _, res0 rfl, ⟨rfl, g.2, g.1.E, ⟨hp, fun p q h1 h2 => hs p q h1 (by omega)⟩, ho0, rfl⟩, sub_front ⟨_, rfl⟩⟩

end Go.Proofs.Ytmdbmeilmhjjaaa.K
