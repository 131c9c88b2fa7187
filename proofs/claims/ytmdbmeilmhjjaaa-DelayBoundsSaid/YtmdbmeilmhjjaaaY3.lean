/- Walks: slices.Sorted of few numbers; the package delay. No condition beyond what each statement names. -/
import Derived.Test.YtmdbmeilmhjjaaaProg
import Derived.Test.YtmdbmeilmhjjaaaK12
import Derived.Test.YtmdbmeilmhjjaaaB9
import Derived.Test.YtmdbmeilmhjjaaaY1
import Derived.Test.YtmdbmeilmhjjaaaY2
set_option linter.unusedVariables false
set_option linter.unusedSimpArgs false
set_option maxRecDepth 100000
namespace Go.Proofs.Ytmdbmeilmhjjaaa.K
open Go.RowKit

theorem Len64_c {V : Mem} (v : Int) (h : 0 ≤ v ∧ v ≤ 255) : CallS Try.prog 28 [.int .u64 v].toArray V [] (fun r L' => ∃ k, r = .int .i64 k ∧ L' = []) := by
  refine callS Try.func28 rfl rfl (fun w0 => ?_)
  refine s_seq ?_
  refine s_region ?_
  refine o_val rfl rfl rfl (y_assign (v := (.int _ _)) rfl) ?_
  refine o_nil ?_
  refine s_seq ?_
  refine s_seq ?_
  refine s_region ?_
  refine o_val rfl rfl rfl (y_move (v := (.int _ _)) rfl) ?_
  refine o_val rfl rfl rfl (y_geq rfl rfl) ?_
  refine o_nil ?_
  refine s_if rfl (fun h1 => ?_) (fun h2 => ?_)
  · exfalso; omega
  · refine s_skip ?_
    refine s_seq ?_
    refine s_seq ?_
    refine s_region ?_
    refine o_val rfl rfl rfl (y_move (v := (.int _ _)) rfl) ?_
    refine o_val rfl rfl rfl (y_geq rfl rfl) ?_
    refine o_nil ?_
    refine s_if rfl (fun h3 => ?_) (fun h4 => ?_)
    · exfalso; omega
    · refine s_skip ?_
      refine s_seq ?_
      refine s_seq ?_
      refine s_region ?_
      refine o_val rfl rfl rfl (y_move (v := (.int _ _)) rfl) ?_
      refine o_val rfl rfl rfl (y_geq rfl rfl) ?_
      refine o_nil ?_
      refine s_if rfl (fun h5 => ?_) (fun h6 => ?_)
      · exfalso; omega
      · refine s_skip ?_
        refine s_seq ?_
        refine s_region ?_
        refine o_val rfl rfl rfl (y_move (v := (.int _ _)) rfl) ?_
        refine o_val rfl rfl rfl (y_move (v := (.int _ _)) rfl) ?_
        refine o_val rfl rfl rfl (y_conv Try.runUnderlying55 Try.runUnderlying5 rfl (by simp only [inK]; omega)) ?_
        refine o_val rfl rfl rfl (y_strIndex Try.runUnderlying9 rfl rfl (⟨by omega, show v < ((256 : Nat) : Int) from by omega⟩)) ?_
        refine o_val rfl rfl rfl (y_conv Try.runUnderlying5 Try.runUnderlying3 rfl (⟨Int.le_trans (by decide) (bt_bd _ _).1, Int.le_trans (bt_bd _ _).2 (by decide)⟩)) ?_
        refine o_val rfl rfl rfl (y_add' rfl rfl) ?_
        refine o_val rfl rfl rfl (y_assign (v := (.int _ _)) rfl) ?_
        refine o_nil ?_
        refine s_forget [(2, (.int _ _))] ⟨rfl, trivial⟩ (fun _f => ?_)
        refine s_ret ?_
        exact ⟨_, _, res1 rfl rfl, ⟨_, rfl, rfl⟩, sub_front ⟨_, rfl⟩⟩

theorem Len_c {V : Mem} (v : Int) (h : 0 ≤ v ∧ v ≤ 255) : CallS Try.prog 17 [.int .u64 v].toArray V [] (fun r L' => ∃ k, r = .int .i64 k ∧ L' = []) := by
  refine callS Try.func17 rfl rfl (fun w0 => ?_)
  refine s_seq ?_
  refine s_region ?_
  refine o_val rfl rfl rfl (y_assign (v := (.int _ _)) rfl) ?_
  refine o_nil ?_
  refine s_seq ?_
  refine s_else rfl ?_
  refine s_skip ?_
  refine s_seq ?_
  refine s_region ?_
  refine o_val rfl rfl rfl (y_move (v := (.int _ _)) rfl) ?_
  refine o_fn 0 (d := 7) rfl Try.call28 (Len64_c _ h) rfl ?_
  rintro _ _ ⟨k, rfl, rfl⟩
  refine o_val rfl rfl rfl (y_assign (v := (.int _ _)) rfl) ?_
  refine o_nil ?_
  refine s_ret ?_
  exact ⟨_, _, res1 rfl rfl, ⟨_, rfl, rfl⟩, sub_front ⟨_, rfl⟩⟩

theorem pdq_c {V : Mem} (A : Option Addr) (n c : Nat) (xs : List Int) (E : Grp) (hos : OS A n c 3 1 ((xs).map (.int .i64)) E) (hb : n ≤ 12) (k : Int) : CallS Try.prog 16 [.slice A n c, .int .i64 0, .int .i64 n, .int .i64 k].toArray V [E] (fun r L' => r = .tuple #[] ∧ ∃ zs E', Sorts xs zs ∧ OS A n c 3 1 ((zs).map (.int .i64)) E' ∧ L' = [E']) := by
  refine callS Try.func16 rfl rfl (fun w0 => ?_)
  refine s_seq ?_
  refine s_region ?_
  refine o_val rfl rfl rfl (y_assign (v := (.bool _)) rfl) ?_
  refine o_nil ?_
  refine s_seq ?_
  refine s_region ?_
  refine o_val rfl rfl rfl (y_assign (v := (.bool _)) rfl) ?_
  refine o_nil ?_
  refine s_block ?_
  refine s_loop (γ := Unit) (fun g => [(0, .slice A n c), (1, .int .i64 0), (2, .int .i64 n)]) (fun g => [E]) (fun g => True) (fun g => 0) (()) ?_ ⟨rfl, rfl, rfl, trivial⟩ (sub_front ⟨_, rfl⟩) ?_
  · exact trivial
  · intro g _f hI
    refine s_block ?_
    refine s_seq ?_
    refine s_region ?_
    refine o_val rfl rfl rfl (y_move (v := (.int _ _)) rfl) ?_
    refine o_val rfl rfl rfl (y_move (v := (.int _ _)) rfl) ?_
    refine o_val rfl rfl rfl (y_sub rfl rfl (by simp only [inK]; omega)) ?_
    refine o_val rfl rfl rfl (y_assign (v := (.int _ _)) rfl) ?_
    refine o_nil ?_
    refine s_seq ?_
    refine s_seq ?_
    refine s_region ?_
    refine o_val rfl rfl rfl (y_move (v := (.int _ _)) rfl) ?_
    refine o_val rfl rfl rfl (y_leq rfl rfl) ?_
    refine o_nil ?_
    refine s_if rfl (fun h1 => ?_) (fun h2 => ?_)
    · refine s_seq ?_
      refine s_region ?_
      refine o_val rfl rfl rfl (y_move (v := (.slice _ _ _)) rfl) ?_
      refine o_val rfl rfl rfl (y_move (v := (.int _ _)) rfl) ?_
      refine o_val rfl rfl rfl (y_move (v := (.int _ _)) rfl) ?_
      refine o_fn 1 (d := 27) rfl Try.call18 (insSort_c A n c xs E hos hb) rfl ?_
      rintro _ _ ⟨rfl, zs, E', hz, ho', rfl⟩
      refine o_nil ?_
      refine s_ret ?_
      exact ⟨_, _, res0 rfl, ⟨rfl, zs, E', hz, ho', rfl⟩, sub_front ⟨_, rfl⟩⟩
    · exfalso; omega

theorem Sort_c {V : Mem} (A : Option Addr) (n c : Nat) (xs : List Int) (E : Grp) (hos : OS A n c 3 1 ((xs).map (.int .i64)) E) (hb : n ≤ 12) : CallS Try.prog 13 [.slice A n c].toArray V [E] (fun r L' => r = .tuple #[] ∧ ∃ zs E', Sorts xs zs ∧ OS A n c 3 1 ((zs).map (.int .i64)) E' ∧ L' = [E']) := by
  refine callS Try.func13 rfl rfl (fun w0 => ?_)
  refine s_seq ?_
  refine s_region ?_
  refine o_val rfl rfl rfl (y_move (v := (.slice _ _ _)) rfl) ?_
  refine o_val rfl rfl rfl (y_len Try.runUnderlying22 rfl) ?_
  refine o_val rfl rfl rfl (y_assign (v := (.int _ _)) rfl) ?_
  refine o_nil ?_
  refine s_region ?_
  refine o_val rfl rfl rfl (y_move (v := (.slice _ _ _)) rfl) ?_
  refine o_val rfl rfl rfl (y_move (v := (.int _ _)) rfl) ?_
  refine o_val rfl rfl rfl (y_move (v := (.int _ _)) rfl) ?_
  refine o_val rfl rfl rfl (y_conv Try.runUnderlying3 Try.runUnderlying42 rfl (by simp only [inK]; omega)) ?_
  refine o_fn 0 (d := 9) rfl Try.call17 (Len_c _ (by omega)) rfl ?_
  rintro _ _ ⟨k, rfl, rfl⟩
  refine o_fn 1 (d := 10) rfl Try.call16 (pdq_c A n c xs E hos hb _) rfl ?_
  rintro _ _ ⟨rfl, zs, E', hz, ho', rfl⟩
  refine o_nil ?_
  exact ⟨_, _, res0 rfl, ⟨rfl, zs, E', hz, ho', rfl⟩, sub_front ⟨_, rfl⟩⟩

theorem Values_c {V : Mem} (A : Option Addr) (n c : Nat) : CallS Try.prog 9 [.slice A n c].toArray V [] (fun r L' => ∃ b, r = .func (.func 14) #[] [.pointer (some ⟨b, 0, none⟩)].toArray ∧ L' = [vgrp b A n c]) := by
  refine callS Try.func9 rfl rfl (fun w0 => ?_)
  refine s_seq ?_
  refine s_region ?_
  refine o_box (v := (.slice _ _ _)) rfl rfl rfl (fun b1 => ?_)
  refine o_val rfl rfl rfl (y_assign (v := _) rfl) ?_
  refine o_nil ?_
  refine s_seq ?_
  refine s_region ?_
  refine o_val rfl rfl rfl (y_func' (xs := []) (a := []) (b := [(.pointer _)]) rfl rfl) ?_
  refine o_val rfl rfl rfl (y_assign (v := (.func _ _ _)) rfl) ?_
  refine o_nil ?_
  refine s_ret ?_
  exact ⟨_, _, res1 rfl rfl, ⟨_, rfl, rfl⟩, sub_front ⟨_, rfl⟩⟩

theorem Collect_c {V : Mem} (A : Option Addr) (n c : Nat) (xs : List Int) (h : Cels V [] A (xs.map (.int .i64))) (hn : xs.length = n) (h0 : 0 < n) (hb : n ≤ 12) (b : Nat) : CallS Try.prog 12 [.func (.func 14) #[] [.pointer (some ⟨b, 0, none⟩)].toArray].toArray V [vgrp b A n c] (fun r L' => ∃ B e E, r = .slice B n e ∧ OS B n e 3 1 (xs.map (.int .i64)) E ∧ L' = [vgrp b A n c, E]) := by
  refine callS Try.func12 rfl rfl (fun w0 => ?_)
  refine s_seq ?_
  refine s_region ?_
  refine o_val rfl rfl rfl (y_assign (v := (.slice _ _ _)) rfl) ?_
  refine o_nil ?_
  refine s_seq ?_
  refine s_region ?_
  refine o_val rfl rfl rfl (y_move (v := (.func _ _ _)) rfl) ?_
  refine o_fn 1 (d := 4) rfl Try.call15 (AppendSeq_c A n c xs h.here.down hn h0 (by omega) b) rfl ?_
  rintro _ _ ⟨B, e, E, rfl, ho, rfl⟩
  refine o_val rfl rfl rfl (y_assign (v := (.slice _ _ _)) rfl) ?_
  refine o_nil ?_
  refine s_ret ?_
  exact ⟨_, _, res1 rfl rfl, ⟨_, _, _, rfl, ho, rfl⟩, sub_front ⟨_, rfl⟩⟩

theorem Sorted_c {V : Mem} (A : Option Addr) (n c : Nat) (xs : List Int) (h : Cels V [] A (xs.map (.int .i64))) (hn : xs.length = n) (h0 : 0 < n) (hb : n ≤ 12) (b : Nat) : CallS Try.prog 8 [.func (.func 14) #[] [.pointer (some ⟨b, 0, none⟩)].toArray].toArray V [vgrp b A n c] (fun r L' => ∃ B e E, r = .slice B n e ∧ OS B n e 3 1 ((srt xs).map (.int .i64)) E ∧ L' = [E]) := by
  refine callS Try.func8 rfl rfl (fun w0 => ?_)
  refine s_seq ?_
  refine s_region ?_
  refine o_val rfl rfl rfl (y_assign (v := (.slice _ _ _)) rfl) ?_
  refine o_nil ?_
  refine s_seq ?_
  refine s_region ?_
  refine o_val rfl rfl rfl (y_move (v := (.func _ _ _)) rfl) ?_
  refine o_fn 1 (d := 5) rfl Try.call12 (Collect_c A n c xs h.here.down hn h0 hb b) rfl ?_
  rintro _ _ ⟨B, e, E, rfl, ho, rfl⟩
  refine o_val rfl rfl rfl (y_assign (v := (.slice _ _ _)) rfl) ?_
  refine o_nil ?_
  refine s_seq ?_
  refine s_region ?_
  refine o_val rfl rfl rfl (y_move (v := (.slice _ _ _)) rfl) ?_
  refine o_pull 1 ?_
  refine o_fn 1 (d := 7) rfl Try.call13 (Sort_c B n e xs E ho hb) rfl ?_
  rintro _ _ ⟨rfl, zs, E', hz, ho', rfl⟩
  obtain rfl := hz.eq
  refine o_nil ?_
  refine s_seq ?_
  refine s_region ?_
  refine o_val rfl rfl rfl (y_move (v := (.slice _ _ _)) rfl) ?_
  refine o_val rfl rfl rfl (y_assign (v := (.slice _ _ _)) rfl) ?_
  refine o_nil ?_
  refine s_ret ?_
  exact ⟨_, [_], res1 rfl rfl, ⟨_, _, _, rfl, ho', rfl⟩, sub_picks [0] rfl⟩

end Go.Proofs.Ytmdbmeilmhjjaaa.K
