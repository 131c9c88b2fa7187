/- Walks: the law of the delay's bounds. No condition beyond what each statement names. -/
import Derived.Test.YtmdbmeilmhjjaaaProg
import Derived.Test.YtmdbmeilmhjjaaaK12
import Derived.Test.YtmdbmeilmhjjaaaB9
import Derived.Test.YtmdbmeilmhjjaaaY1
import Derived.Test.YtmdbmeilmhjjaaaY2
import Derived.Test.YtmdbmeilmhjjaaaY3
import Derived.Test.YtmdbmeilmhjjaaaY4
import Derived.Test.YtmdbmeilmhjjaaaY5
set_option linter.unusedVariables false
set_option linter.unusedSimpArgs false
set_option maxRecDepth 100000
namespace Go.Proofs.Ytmdbmeilmhjjaaa.K
open Go.RowKit

theorem emod_tmod (n k : Int) (hk : 0 < k) : n % k = if n.tmod k < 0 then n.tmod k + k else n.tmod k := by
  have h1 := Int.mul_tdiv_add_tmod n k
  have h2 := Int.tmod_lt_of_pos n hk
  have h3 : -k < n.tmod k := by
    have := Int.tmod_lt_of_pos (-n) hk
    rw [Int.neg_tmod] at this
    omega
  have e : n % k = n.tmod k % k := by
    conv => lhs; rw [← h1]
    rw [Int.add_comm, Int.add_mul_emod_self_left]
  rw [e]
  split
  · rw [← Int.add_emod_right, Int.emod_eq_of_lt (by omega) (by omega)]
  · exact Int.emod_eq_of_lt (by omega) h2
theorem below_in (n k : Int) (hk : 0 < k) : 0 ≤ n % k ∧ n % k < k := ⟨Int.emod_nonneg _ (by omega), Int.emod_lt_of_pos _ hk⟩

theorem Below_c {V : Mem} (n k : Int) (hk : 0 < k ∧ k ≤ 4611686018427387904) : CallS Try.prog 10 [.int .i64 n, .int .i64 k].toArray V [] (fun r L' => r = .int .i64 (n % k) ∧ L' = []) := by
  have he := emod_tmod n k hk.1
  have hb := below_in n k hk.1
  refine callS Try.func10 rfl rfl (fun w0 => ?_)
  refine s_seq ?_
  refine s_region ?_
  refine o_val rfl rfl rfl (y_assign (v := (.int _ _)) rfl) ?_
  refine o_nil ?_
  refine s_seq ?_
  refine s_region ?_
  refine o_val rfl rfl rfl (y_move (v := (.int _ _)) rfl) ?_
  refine o_val rfl rfl rfl (y_move (v := (.int _ _)) rfl) ?_
  refine o_val rfl rfl rfl (y_rem' rfl rfl (by omega)) ?_
  refine o_val rfl rfl rfl (y_assign (v := (.int _ _)) rfl) ?_
  refine o_nil ?_
  refine s_seq ?_
  refine s_seq ?_
  refine s_region ?_
  refine o_val rfl rfl rfl (y_move (v := (.int _ _)) rfl) ?_
  refine o_val rfl rfl rfl (y_lss rfl rfl) ?_
  refine o_nil ?_
  refine s_if rfl (fun h1 => ?_) (fun h2 => ?_)
  · have hneg := h1
    refine s_region ?_
    refine o_val rfl rfl rfl (y_move (v := (.int _ _)) rfl) ?_
    refine o_val rfl rfl rfl (y_move (v := (.int _ _)) rfl) ?_
    refine o_val rfl rfl rfl (y_add rfl rfl (by have := Int.tmod_lt_of_pos n hk.1; rw [he] at hb; split at hb <;> simp only [inK] <;> omega)) ?_
    refine o_val rfl rfl rfl (y_assign (v := (.int _ _)) rfl) ?_
    refine o_nil ?_
    refine s_seq ?_
    refine s_region ?_
    refine o_val rfl rfl rfl (y_move (v := (.int _ _)) rfl) ?_
    refine o_val rfl rfl rfl (y_assign (v := (.int _ _)) rfl) ?_
    refine o_nil ?_
    refine s_ret ?_
    exact ⟨_, _, res1 rfl rfl, ⟨congrArg (Value.int .i64) (by rw [he, if_pos hneg]), rfl⟩, sub_front ⟨_, rfl⟩⟩
  · have hnn := h2
    refine s_skip ?_
    refine s_seq ?_
    refine s_region ?_
    refine o_val rfl rfl rfl (y_move (v := (.int _ _)) rfl) ?_
    refine o_val rfl rfl rfl (y_assign (v := (.int _ _)) rfl) ?_
    refine o_nil ?_
    refine s_ret ?_
    exact ⟨_, _, res1 rfl rfl, ⟨congrArg (Value.int .i64) (by rw [he, if_neg hnn]), rfl⟩, sub_front ⟨_, rfl⟩⟩

theorem noteS_bd {low high now : Int} {xs : List Int} {calm late : Int} (hok : 0 ≤ low ∧ low ≤ high ∧ high ≤ 20) (hnow : low ≤ now ∧ now ≤ high) : low ≤ (noteS low high now xs calm late).1 ∧ (noteS low high now xs calm late).1 ≤ high := by
  unfold noteS
  split
  · dsimp only; omega
  · split <;> dsimp only <;> omega
theorem noteS_up {low high now : Int} {xs : List Int} {calm late : Int} (h : 0 < late) : (noteS low high now xs calm late).1 = min (now + min late 20) high := by
  unfold noteS; rw [if_pos h]
theorem noteS_down {low high now : Int} {xs : List Int} {calm late : Int} (hnow : low ≤ now ∧ now ≤ high) (h : ¬ 0 < late) : now - 1 ≤ (noteS low high now xs calm late).1 ∧ (noteS low high now xs calm late).1 ≤ now ∧ ((noteS low high now xs calm late).1 < now → 8 ≤ calm + 1) := by
  unfold noteS
  rw [if_neg h]
  split <;> dsimp only <;> omega
theorem noteS_calm {low high now : Int} {xs : List Int} {calm late : Int} (hc : 0 ≤ calm) : 0 ≤ (noteS low high now xs calm late).2.2 ∧ (noteS low high now xs calm late).2.2 ≤ calm + 1 ∧ (now ≠ (noteS low high now xs calm late).1 → (noteS low high now xs calm late).2.2 = 0) := by
  unfold noteS
  split
  · dsimp only; omega
  · split <;> dsimp only <;> omega
/-- The law's state in its loop. -/
structure DB where
  i : Nat
  now : Int
  l : List Int
  calm : Int
  fell : Int
  A : Option Addr
  n : Nat
  c : Nat
  E : Grp

theorem DelayBounds_c {V : Mem} (low : Int) (hlow : inK .i64 low) (high : Int) (hhigh : inK .i64 high) (N : Option Addr) (n c : Nat) (xs : List Int) (h : Cels V [] N (xs.map (.int .i64))) (hn : xs.length = n) (hb : n * 8 ≤ 140737488351232) (hxi : ∀ x ∈ xs, inK .i64 x) : CallS Try.prog 4 [.int .i64 low, .int .i64 high, .slice N n c].toArray V [] (fun r L' => r = .bool true ∧ L' = []) := by
  have hl1 := below_in low 21 (by omega)
  have hh1 := below_in high 21 (by omega)
  have hok : 0 ≤ (min (low % 21) (high % 21)) ∧ (min (low % 21) (high % 21)) ≤ (max (low % 21) (high % 21)) ∧ (max (low % 21) (high % 21)) ≤ 20 := by omega
  refine callS Try.func4 rfl rfl (fun w0 => ?_)
  refine s_seq ?_
  refine s_region ?_
  refine o_val rfl rfl rfl (y_assign (v := (.bool _)) rfl) ?_
  refine o_nil ?_
  refine s_seq ?_
  refine s_region ?_
  refine o_val rfl rfl rfl (y_move (v := (.int _ _)) rfl) ?_
  refine o_fn 0 (d := 18) rfl Try.call10 (Below_c _ 21 (by omega)) rfl ?_
  rintro _ _ ⟨rfl, rfl⟩
  refine o_val rfl rfl rfl (y_move (v := (.int _ _)) rfl) ?_
  refine o_fn 0 (d := 20) rfl Try.call10 (Below_c _ 21 (by omega)) rfl ?_
  rintro _ _ ⟨rfl, rfl⟩
  refine o_val rfl rfl rfl (y_assign (v := (.int _ _)) rfl) ?_
  refine o_val rfl rfl rfl (y_assign (v := (.int _ _)) rfl) ?_
  refine o_nil ?_
  refine s_seq ?_
  refine s_region ?_
  refine o_val rfl rfl rfl (y_move (v := (.int _ _)) rfl) ?_
  refine o_val rfl rfl rfl (y_move (v := (.int _ _)) rfl) ?_
  refine o_val rfl rfl rfl (y_min rfl rfl) ?_
  refine o_val rfl rfl rfl (y_move (v := (.int _ _)) rfl) ?_
  refine o_val rfl rfl rfl (y_move (v := (.int _ _)) rfl) ?_
  refine o_val rfl rfl rfl (y_max rfl rfl) ?_
  refine o_fn 0 (d := 28) rfl Try.call5 (NewD_ok _ _ hok) rfl ?_
  rintro _ _ ⟨b1, rfl, rfl⟩
  refine o_val rfl rfl rfl (y_move (v := (.tuple #[(.pointer _), (.int _ _)])) rfl) ?_
  refine o_val rfl rfl rfl (y_extract (v := (.pointer _)) rfl rfl) ?_
  refine o_val rfl rfl rfl (y_extract (v := (.int _ _)) rfl rfl) ?_
  refine o_val rfl rfl rfl (y_assign (v := (.pointer _)) rfl) ?_
  refine o_val rfl rfl rfl (y_assign (v := (.int _ _)) rfl) ?_
  refine o_nil ?_
  refine s_forget [(2, (.slice _ _ _)), (6, (.bool _)), (7, (.int _ _)), (8, (.int _ _)), (9, (.pointer _)), (10, (.int _ _))] ⟨rfl, rfl, rfl, rfl, rfl, rfl, trivial⟩ (fun _f => ?_)
  refine s_seq ?_
  refine s_seq ?_
  refine s_region ?_
  refine o_val rfl rfl rfl (y_move (v := (.int _ _)) rfl) ?_
  refine o_split rfl rfl rfl (y_neq rfl rfl) (fun p1 => ?_) (fun p2 => ?_)
  · exact absurd rfl p1
  · refine o_val rfl rfl rfl (y_move (v := (.bool _)) rfl) ?_
    refine o_guard_yes rfl rfl ?_
    refine o_val rfl rfl rfl (y_move (v := (.pointer _)) rfl) ?_
    refine o_guard_yes rfl rfl ?_
    refine o_val rfl rfl rfl ((y_eql_ptr_nil (by kernel_rfl) rfl rfl).bf rfl) ?_
    refine o_val rfl rfl rfl (y_pick_f (v := (.bool _)) rfl rfl) ?_
    refine o_val rfl rfl rfl (y_move (v := (.bool _)) rfl) ?_
    refine o_guard_yes rfl rfl ?_
    refine o_val rfl rfl rfl (y_move (v := (.pointer _)) rfl) ?_
    refine o_guard_yes rfl rfl ?_
    refine o_fn 1 (d := 39) rfl Try.call7 (ValueD_c _ _ _ _ _ _ _ _) rfl ?_
    rintro _ _ ⟨rfl, rfl⟩
    refine o_guard_yes rfl rfl ?_
    refine o_val rfl rfl rfl (y_move (v := (.int _ _)) rfl) ?_
    refine o_guard_yes rfl rfl ?_
    refine o_val rfl rfl rfl (y_move (v := (.int _ _)) rfl) ?_
    refine o_guard_yes rfl rfl ?_
    refine o_val rfl rfl rfl (y_min rfl rfl) ?_
    refine o_guard_yes rfl rfl ?_
    refine o_val rfl rfl rfl (y_neq rfl rfl) ?_
    refine o_val rfl rfl rfl (y_pick_f (v := (.bool _)) rfl rfl) ?_
    refine o_nil ?_
    refine s_forget [(2, (.slice _ _ _)), (6, (.bool _)), (7, (.int _ _)), (8, (.int _ _)), (9, (.pointer _)), (10, (.int _ _)), (44, (.bool _))] ⟨rfl, rfl, rfl, rfl, rfl, rfl, rfl, trivial⟩ (fun _f => ?_)
    refine s_if rfl (fun h3 => ?_) (fun h4 => ?_)
    · exact absurd rfl h3
    · refine s_skip ?_
      refine s_seq ?_
      refine s_region ?_
      refine o_val rfl rfl rfl (y_assign (v := (.int _ _)) rfl) ?_
      refine o_nil ?_
      refine s_seq ?_
      refine s_seq ?_
      refine s_region ?_
      refine o_val rfl rfl rfl (y_move (v := (.slice _ _ _)) rfl) ?_
      refine o_val rfl rfl rfl (y_len Try.runUnderlying22 rfl) ?_
      refine o_val rfl rfl rfl (y_move (v := (.int _ _)) rfl) ?_
      refine o_nil ?_
      refine s_block ?_
      refine s_sub_picks [0, 0] rfl ?_
      refine s_loop (γ := DB) (fun g => [(7, .int .i64 (low % 21)), (8, .int .i64 (high % 21)), (9, .pointer (some ⟨b1, 0, none⟩)), (11, .int .i64 g.fell), (45, .slice N n c), (46, .int .i64 n), (47, .int .i64 g.i)]) (fun g => [dgrp b1 (min (low % 21) (high % 21)) (max (low % 21) (high % 21)) g.now g.A g.n g.c g.calm, g.E]) (fun g => g.i ≤ n ∧ OS g.A g.n g.c 3 1 (g.l.map (.int .i64)) g.E ∧ g.n ≤ 9 ∧ ((min (low % 21) (high % 21)) ≤ g.now ∧ g.now ≤ (max (low % 21) (high % 21))) ∧ (0 ≤ g.calm ∧ g.calm ≤ g.i - g.fell) ∧ (0 ≤ g.fell ∧ g.fell ≤ g.i)) (fun g => n - g.i) (DB.mk 0 (min (low % 21) (high % 21)) [] 0 0 none 0 0 []) ?_ ⟨rfl, rfl, rfl, rfl, rfl, rfl, rfl, trivial⟩ (sub_front ⟨_, rfl⟩) ?_
      · exact ⟨Nat.zero_le _, OS.nil _ _, Nat.zero_le _, ⟨Int.le_refl _, hok.2.1⟩, ⟨Int.le_refl _, Int.le_refl _⟩, ⟨Int.le_refl _, Int.le_refl _⟩⟩
      · intro g _f hI
        obtain ⟨hi, ho, hn9, hnow, hcalm, hfell⟩ := hI
        refine s_seq ?_
        refine s_region ?_
        refine o_val rfl rfl rfl (y_lss rfl rfl) ?_
        refine o_nil ?_
        refine s_seq ?_
        refine s_if rfl (fun h5 => ?_) (fun h6 => ?_)
        · refine s_skip ?_
          refine s_seq ?_
          refine s_block ?_
          refine s_seq ?_
          refine s_region ?_
          refine o_val rfl rfl rfl (y_move (v := (.int _ _)) rfl) ?_
          refine o_val rfl rfl rfl (y_index1 Try.runUnderlying22 Try.sizeOf3 (some_int (i := 0) h (by omega)) rfl rfl (by omega)) ?_
          refine o_val rfl rfl rfl (y_load Try.isAgg3 rfl (cel_int h.here (by omega))) ?_
          refine o_val rfl rfl rfl (y_assign (v := (.int _ _)) rfl) ?_
          refine o_val rfl rfl rfl (y_assign (v := (.int _ _)) rfl) ?_
          refine o_nil ?_
          refine s_seq ?_
          refine s_region ?_
          refine o_val rfl rfl rfl (y_move (v := (.pointer _)) rfl) ?_
          refine o_fn 1 (d := 53) rfl Try.call7 (ValueD_c _ _ _ _ _ _ _ _) rfl ?_
          rintro _ _ ⟨rfl, rfl⟩
          refine o_val rfl rfl rfl (y_assign (v := (.int _ _)) rfl) ?_
          refine o_nil ?_
          refine s_seq ?_
          refine s_region ?_
          refine o_val rfl rfl rfl (y_move (v := (.pointer _)) rfl) ?_
          refine o_val rfl rfl rfl (y_move (v := (.int _ _)) rfl) ?_
          have hlate : inK .i64 (xs.getD ((g.i : Int)).toNat 0) := hxi _ (getD_in' (by omega))
          refine o_fn 2 (d := 56) rfl Try.call6 (NoteD_c b1 (min (low % 21) (high % 21)) (max (low % 21) (high % 21)) g.now g.A g.n g.c g.calm g.l g.E ho hn9 (by omega) (by omega) (by omega) (by omega) _ hlate) rfl ?_
          rintro _ _ ⟨rfl, A', n', c', E', ho', hn', rfl⟩
          have hbd := noteS_bd (xs := g.l) (calm := g.calm) (late := (xs.getD ((g.i : Int)).toNat 0)) hok hnow
          have hcm := noteS_calm (low := (min (low % 21) (high % 21))) (high := (max (low % 21) (high % 21))) (now := g.now) (xs := g.l) (late := (xs.getD ((g.i : Int)).toNat 0)) hcalm.1
          refine o_nil ?_
          refine s_seq ?_
          refine s_region ?_
          refine o_val rfl rfl rfl (y_move (v := (.pointer _)) rfl) ?_
          refine o_fn 1 (d := 58) rfl Try.call7 (ValueD_c _ _ _ _ _ _ _ _) rfl ?_
          rintro _ _ ⟨rfl, rfl⟩
          refine o_val rfl rfl rfl (y_assign (v := (.int _ _)) rfl) ?_
          refine o_nil ?_
          refine s_seq ?_
          refine s_seq ?_
          refine s_region ?_
          refine o_val rfl rfl rfl (y_move (v := (.int _ _)) rfl) ?_
          refine o_val rfl rfl rfl (y_move (v := (.int _ _)) rfl) ?_
          refine o_val rfl rfl rfl (y_move (v := (.int _ _)) rfl) ?_
          refine o_val rfl rfl rfl (y_min rfl rfl) ?_
          refine o_split rfl rfl rfl (y_lss rfl rfl) (fun p7 => ?_) (fun p8 => ?_)
          · exfalso; omega
          · refine o_val rfl rfl rfl (y_move (v := (.bool _)) rfl) ?_
            refine o_guard_yes rfl rfl ?_
            refine o_val rfl rfl rfl (y_move (v := (.int _ _)) rfl) ?_
            refine o_guard_yes rfl rfl ?_
            refine o_val rfl rfl rfl (y_move (v := (.int _ _)) rfl) ?_
            refine o_guard_yes rfl rfl ?_
            refine o_val rfl rfl rfl (y_move (v := (.int _ _)) rfl) ?_
            refine o_guard_yes rfl rfl ?_
            refine o_val rfl rfl rfl (y_max rfl rfl) ?_
            refine o_guard_yes rfl rfl ?_
            refine o_split rfl rfl rfl (y_gtr rfl rfl) (fun p9 => ?_) (fun p10 => ?_)
            · exfalso; omega
            · refine o_val rfl rfl rfl (y_pick_f (v := (.bool _)) rfl rfl) ?_
              refine o_val rfl rfl rfl (y_move (v := (.bool _)) rfl) ?_
              refine o_guard_yes rfl rfl ?_
              refine o_val rfl rfl rfl (y_move (v := (.int _ _)) rfl) ?_
              refine o_guard_yes rfl rfl ?_
              refine o_split rfl rfl rfl (y_gtr rfl rfl) (fun p11 => ?_) (fun p12 => ?_)
              · have hpos := p11
                have hu := noteS_up (low := (min (low % 21) (high % 21))) (high := (max (low % 21) (high % 21))) (now := g.now) (xs := g.l) (calm := g.calm) (late := (xs.getD ((g.i : Int)).toNat 0)) hpos
                refine o_guard_yes rfl rfl ?_
                refine o_val rfl rfl rfl (y_move (v := (.bool _)) rfl) ?_
                refine o_guard_yes rfl rfl ?_
                refine o_val rfl rfl rfl (y_move (v := (.int _ _)) rfl) ?_
                refine o_guard_yes rfl rfl ?_
                refine o_val rfl rfl rfl (y_move (v := (.int _ _)) rfl) ?_
                refine o_guard_yes rfl rfl ?_
                refine o_val rfl rfl rfl (y_move (v := (.int _ _)) rfl) ?_
                refine o_guard_yes rfl rfl ?_
                refine o_val rfl rfl rfl (y_min rfl rfl) ?_
                refine o_guard_yes rfl rfl ?_
                refine o_val rfl rfl rfl (y_add rfl rfl (by simp only [inK] at hlate ⊢; omega)) ?_
                refine o_guard_yes rfl rfl ?_
                refine o_val rfl rfl rfl (y_move (v := (.int _ _)) rfl) ?_
                refine o_guard_yes rfl rfl ?_
                refine o_val rfl rfl rfl (y_move (v := (.int _ _)) rfl) ?_
                refine o_guard_yes rfl rfl ?_
                refine o_val rfl rfl rfl (y_max rfl rfl) ?_
                refine o_guard_yes rfl rfl ?_
                refine o_val rfl rfl rfl (y_min rfl rfl) ?_
                refine o_guard_yes rfl rfl ?_
                refine o_split rfl rfl rfl (y_neq rfl rfl) (fun p13 => ?_) (fun p14 => ?_)
                · exact absurd hu p13
                · refine o_guard_yes rfl rfl ?_
                  refine o_val rfl rfl rfl (y_pick_t (v := (.bool _)) rfl rfl) ?_
                  refine o_val rfl rfl rfl (y_pick_f (v := (.bool _)) rfl rfl) ?_
                  refine o_val rfl rfl rfl (y_move (v := (.bool _)) rfl) ?_
                  refine o_guard_yes rfl rfl ?_
                  refine o_val rfl rfl rfl (y_move (v := (.int _ _)) rfl) ?_
                  refine o_guard_yes rfl rfl ?_
                  refine o_split rfl rfl rfl (y_leq rfl rfl) (fun p15 => ?_) (fun p16 => ?_)
                  · refine o_guard_yes rfl rfl ?_
                    refine o_val rfl rfl rfl (y_move (v := (.bool _)) rfl) ?_
                    refine o_guard_yes rfl rfl ?_
                    refine o_val rfl rfl rfl (y_move (v := (.int _ _)) rfl) ?_
                    refine o_guard_yes rfl rfl ?_
                    refine o_val rfl rfl rfl (y_move (v := (.int _ _)) rfl) ?_
                    refine o_guard_yes rfl rfl ?_
                    refine o_split rfl rfl rfl (y_gtr rfl rfl) (fun p17 => ?_) (fun p18 => ?_)
                    · exfalso; omega
                    · refine o_guard_yes rfl rfl ?_
                      refine o_val rfl rfl rfl (y_move (v := (.bool _)) rfl) ?_
                      refine o_guard_yes rfl rfl ?_
                      refine o_val rfl rfl rfl (y_move (v := (.int _ _)) rfl) ?_
                      refine o_guard_yes rfl rfl ?_
                      refine o_val rfl rfl rfl (y_move (v := (.int _ _)) rfl) ?_
                      refine o_guard_yes rfl rfl ?_
                      refine o_val rfl rfl rfl (y_sub rfl rfl (by simp only [inK]; omega)) ?_
                      refine o_guard_yes rfl rfl ?_
                      refine o_split rfl rfl rfl (y_lss rfl rfl) (fun p19 => ?_) (fun p20 => ?_)
                      · exfalso; omega
                      · refine o_guard_yes rfl rfl ?_
                        refine o_val rfl rfl rfl (y_pick_f (v := (.bool _)) rfl rfl) ?_
                        refine o_guard_yes rfl rfl ?_
                        refine o_val rfl rfl rfl (y_pick_t (v := (.bool _)) rfl rfl) ?_
                        refine o_val rfl rfl rfl (y_pick_f (v := (.bool _)) rfl rfl) ?_
                        refine o_nil ?_
                        refine s_else rfl ?_
                        refine s_skip ?_
                        refine s_seq ?_
                        refine s_region ?_
                        refine o_val rfl rfl rfl (y_move (v := (.int _ _)) rfl) ?_
                        refine o_split rfl rfl rfl (y_leq rfl rfl) (fun p21 => ?_) (fun p22 => ?_)
                        · refine o_val rfl rfl rfl (y_move (v := (.bool _)) rfl) ?_
                          refine o_guard_yes rfl rfl ?_
                          refine o_val rfl rfl rfl (y_move (v := (.int _ _)) rfl) ?_
                          refine o_guard_yes rfl rfl ?_
                          refine o_val rfl rfl rfl (y_move (v := (.int _ _)) rfl) ?_
                          refine o_guard_yes rfl rfl ?_
                          refine o_split rfl rfl rfl (y_lss rfl rfl) (fun p23 => ?_) (fun p24 => ?_)
                          · have hfl := p23
                            refine o_val rfl rfl rfl (y_pick_t (v := (.bool _)) rfl rfl) ?_
                            refine o_nil ?_
                            refine s_then rfl ?_
                            refine s_seq ?_
                            refine s_seq ?_
                            refine s_region ?_
                            refine o_val rfl rfl rfl (y_move (v := (.int _ _)) rfl) ?_
                            refine o_val rfl rfl rfl (y_add rfl rfl (by simp only [inK]; omega)) ?_
                            refine o_val rfl rfl rfl (y_move (v := (.int _ _)) rfl) ?_
                            refine o_val rfl rfl rfl (y_sub rfl rfl (by simp only [inK]; omega)) ?_
                            refine o_val rfl rfl rfl (y_lss rfl rfl) ?_
                            refine o_nil ?_
                            refine s_if rfl (fun h25 => ?_) (fun h26 => ?_)
                            · exfalso; omega
                            · refine s_skip ?_
                              refine s_region ?_
                              refine o_val rfl rfl rfl (y_move (v := (.int _ _)) rfl) ?_
                              refine o_val rfl rfl rfl (y_add rfl rfl (by simp only [inK]; omega)) ?_
                              refine o_val rfl rfl rfl (y_assign (v := (.int _ _)) rfl) ?_
                              refine o_nil ?_
                              refine s_region ?_
                              refine o_val rfl rfl rfl (y_add rfl rfl (by simp only [inK]; omega)) ?_
                              refine o_val rfl rfl rfl (y_move (v := (.int _ _)) rfl) ?_
                              refine o_nil ?_
                              exact ⟨DB.mk (g.i + 1) (noteS (min (low % 21) (high % 21)) (max (low % 21) (high % 21)) g.now g.l g.calm (xs.getD ((g.i : Int)).toNat 0)).1 (noteS (min (low % 21) (high % 21)) (max (low % 21) (high % 21)) g.now g.l g.calm (xs.getD ((g.i : Int)).toNat 0)).2.1 (noteS (min (low % 21) (high % 21)) (max (low % 21) (high % 21)) g.now g.l g.calm (xs.getD ((g.i : Int)).toNat 0)).2.2 ((g.i : Int) + 1) A' n' c' E', (by first | omega | (dsimp only; omega)), ⟨by dsimp only; omega, ho', hn', hbd, ⟨hcm.1, by have h1 := hcm.2.1; have h2 := hcm.2.2; dsimp only; omega⟩, by dsimp only; omega⟩, ⟨rfl, rfl, rfl, rfl, rfl, rfl, (congrArg (Value.int .i64) (by dsimp only; omega)), trivial⟩, sub_picks [0, 0] rfl⟩
                          · have hfl := p24
                            refine o_val rfl rfl rfl (y_pick_t (v := (.bool _)) rfl rfl) ?_
                            refine o_nil ?_
                            refine s_else rfl ?_
                            refine s_skip ?_
                            refine s_region ?_
                            refine o_val rfl rfl rfl (y_add rfl rfl (by simp only [inK]; omega)) ?_
                            refine o_val rfl rfl rfl (y_move (v := (.int _ _)) rfl) ?_
                            refine o_nil ?_
                            exact ⟨DB.mk (g.i + 1) (noteS (min (low % 21) (high % 21)) (max (low % 21) (high % 21)) g.now g.l g.calm (xs.getD ((g.i : Int)).toNat 0)).1 (noteS (min (low % 21) (high % 21)) (max (low % 21) (high % 21)) g.now g.l g.calm (xs.getD ((g.i : Int)).toNat 0)).2.1 (noteS (min (low % 21) (high % 21)) (max (low % 21) (high % 21)) g.now g.l g.calm (xs.getD ((g.i : Int)).toNat 0)).2.2 g.fell A' n' c' E', (by first | omega | (dsimp only; omega)), ⟨by dsimp only; omega, ho', hn', hbd, ⟨hcm.1, by have h1 := hcm.2.1; have h2 := hcm.2.2; dsimp only; omega⟩, by dsimp only; omega⟩, ⟨rfl, rfl, rfl, rfl, rfl, rfl, (congrArg (Value.int .i64) (by dsimp only; omega)), trivial⟩, sub_picks [0, 0] rfl⟩
                        · refine o_val rfl rfl rfl (y_move (v := (.bool _)) rfl) ?_
                          refine o_guard_no rfl rfl rfl rfl rfl ?_
                          refine o_guard_no rfl rfl rfl rfl rfl ?_
                          refine o_guard_no rfl rfl rfl rfl rfl ?_
                          refine o_val rfl rfl rfl (y_pick_f (v := (.bool _)) rfl rfl) ?_
                          refine o_nil ?_
                          refine s_else rfl ?_
                          refine s_skip ?_
                          refine s_region ?_
                          refine o_val rfl rfl rfl (y_add rfl rfl (by simp only [inK]; omega)) ?_
                          refine o_val rfl rfl rfl (y_move (v := (.int _ _)) rfl) ?_
                          refine o_nil ?_
                          exact ⟨DB.mk (g.i + 1) (noteS (min (low % 21) (high % 21)) (max (low % 21) (high % 21)) g.now g.l g.calm (xs.getD ((g.i : Int)).toNat 0)).1 (noteS (min (low % 21) (high % 21)) (max (low % 21) (high % 21)) g.now g.l g.calm (xs.getD ((g.i : Int)).toNat 0)).2.1 (noteS (min (low % 21) (high % 21)) (max (low % 21) (high % 21)) g.now g.l g.calm (xs.getD ((g.i : Int)).toNat 0)).2.2 g.fell A' n' c' E', (by first | omega | (dsimp only; omega)), ⟨by dsimp only; omega, ho', hn', hbd, ⟨hcm.1, by have h1 := hcm.2.1; have h2 := hcm.2.2; dsimp only; omega⟩, by dsimp only; omega⟩, ⟨rfl, rfl, rfl, rfl, rfl, rfl, (congrArg (Value.int .i64) (by dsimp only; omega)), trivial⟩, sub_picks [0, 0] rfl⟩
                  · refine o_guard_yes rfl rfl ?_
                    refine o_val rfl rfl rfl (y_move (v := (.bool _)) rfl) ?_
                    refine o_guard_no rfl rfl rfl rfl rfl ?_
                    refine o_guard_no rfl rfl rfl rfl rfl ?_
                    refine o_guard_no rfl rfl rfl rfl rfl ?_
                    refine o_guard_no rfl rfl rfl rfl rfl ?_
                    refine o_guard_un rfl rfl rfl rfl ?_
                    refine o_guard_un rfl rfl rfl rfl ?_
                    refine o_guard_un rfl rfl rfl rfl ?_
                    refine o_guard_un rfl rfl rfl rfl ?_
                    refine o_guard_no rfl rfl rfl rfl rfl ?_
                    refine o_guard_yes rfl rfl ?_
                    refine o_val rfl rfl rfl (y_pick_f (v := (.bool _)) rfl rfl) ?_
                    refine o_val rfl rfl rfl (y_pick_f (v := (.bool _)) rfl rfl) ?_
                    refine o_nil ?_
                    refine s_else rfl ?_
                    refine s_skip ?_
                    refine s_seq ?_
                    refine s_region ?_
                    refine o_val rfl rfl rfl (y_move (v := (.int _ _)) rfl) ?_
                    refine o_split rfl rfl rfl (y_leq rfl rfl) (fun p27 => ?_) (fun p28 => ?_)
                    · refine o_val rfl rfl rfl (y_move (v := (.bool _)) rfl) ?_
                      refine o_guard_yes rfl rfl ?_
                      refine o_val rfl rfl rfl (y_move (v := (.int _ _)) rfl) ?_
                      refine o_guard_yes rfl rfl ?_
                      refine o_val rfl rfl rfl (y_move (v := (.int _ _)) rfl) ?_
                      refine o_guard_yes rfl rfl ?_
                      refine o_split rfl rfl rfl (y_lss rfl rfl) (fun p29 => ?_) (fun p30 => ?_)
                      · have hfl := p29
                        refine o_val rfl rfl rfl (y_pick_t (v := (.bool _)) rfl rfl) ?_
                        refine o_nil ?_
                        refine s_then rfl ?_
                        refine s_seq ?_
                        refine s_seq ?_
                        refine s_region ?_
                        refine o_val rfl rfl rfl (y_move (v := (.int _ _)) rfl) ?_
                        refine o_val rfl rfl rfl (y_add rfl rfl (by simp only [inK]; omega)) ?_
                        refine o_val rfl rfl rfl (y_move (v := (.int _ _)) rfl) ?_
                        refine o_val rfl rfl rfl (y_sub rfl rfl (by simp only [inK]; omega)) ?_
                        refine o_val rfl rfl rfl (y_lss rfl rfl) ?_
                        refine o_nil ?_
                        refine s_if rfl (fun h31 => ?_) (fun h32 => ?_)
                        · exfalso; omega
                        · refine s_skip ?_
                          refine s_region ?_
                          refine o_val rfl rfl rfl (y_move (v := (.int _ _)) rfl) ?_
                          refine o_val rfl rfl rfl (y_add rfl rfl (by simp only [inK]; omega)) ?_
                          refine o_val rfl rfl rfl (y_assign (v := (.int _ _)) rfl) ?_
                          refine o_nil ?_
                          refine s_region ?_
                          refine o_val rfl rfl rfl (y_add rfl rfl (by simp only [inK]; omega)) ?_
                          refine o_val rfl rfl rfl (y_move (v := (.int _ _)) rfl) ?_
                          refine o_nil ?_
                          exact ⟨DB.mk (g.i + 1) (noteS (min (low % 21) (high % 21)) (max (low % 21) (high % 21)) g.now g.l g.calm (xs.getD ((g.i : Int)).toNat 0)).1 (noteS (min (low % 21) (high % 21)) (max (low % 21) (high % 21)) g.now g.l g.calm (xs.getD ((g.i : Int)).toNat 0)).2.1 (noteS (min (low % 21) (high % 21)) (max (low % 21) (high % 21)) g.now g.l g.calm (xs.getD ((g.i : Int)).toNat 0)).2.2 ((g.i : Int) + 1) A' n' c' E', (by first | omega | (dsimp only; omega)), ⟨by dsimp only; omega, ho', hn', hbd, ⟨hcm.1, by have h1 := hcm.2.1; have h2 := hcm.2.2; dsimp only; omega⟩, by dsimp only; omega⟩, ⟨rfl, rfl, rfl, rfl, rfl, rfl, (congrArg (Value.int .i64) (by dsimp only; omega)), trivial⟩, sub_picks [0, 0] rfl⟩
                      · have hfl := p30
                        refine o_val rfl rfl rfl (y_pick_t (v := (.bool _)) rfl rfl) ?_
                        refine o_nil ?_
                        refine s_else rfl ?_
                        refine s_skip ?_
                        refine s_region ?_
                        refine o_val rfl rfl rfl (y_add rfl rfl (by simp only [inK]; omega)) ?_
                        refine o_val rfl rfl rfl (y_move (v := (.int _ _)) rfl) ?_
                        refine o_nil ?_
                        exact ⟨DB.mk (g.i + 1) (noteS (min (low % 21) (high % 21)) (max (low % 21) (high % 21)) g.now g.l g.calm (xs.getD ((g.i : Int)).toNat 0)).1 (noteS (min (low % 21) (high % 21)) (max (low % 21) (high % 21)) g.now g.l g.calm (xs.getD ((g.i : Int)).toNat 0)).2.1 (noteS (min (low % 21) (high % 21)) (max (low % 21) (high % 21)) g.now g.l g.calm (xs.getD ((g.i : Int)).toNat 0)).2.2 g.fell A' n' c' E', (by first | omega | (dsimp only; omega)), ⟨by dsimp only; omega, ho', hn', hbd, ⟨hcm.1, by have h1 := hcm.2.1; have h2 := hcm.2.2; dsimp only; omega⟩, by dsimp only; omega⟩, ⟨rfl, rfl, rfl, rfl, rfl, rfl, (congrArg (Value.int .i64) (by dsimp only; omega)), trivial⟩, sub_picks [0, 0] rfl⟩
                    · refine o_val rfl rfl rfl (y_move (v := (.bool _)) rfl) ?_
                      refine o_guard_no rfl rfl rfl rfl rfl ?_
                      refine o_guard_no rfl rfl rfl rfl rfl ?_
                      refine o_guard_no rfl rfl rfl rfl rfl ?_
                      refine o_val rfl rfl rfl (y_pick_f (v := (.bool _)) rfl rfl) ?_
                      refine o_nil ?_
                      refine s_else rfl ?_
                      refine s_skip ?_
                      refine s_region ?_
                      refine o_val rfl rfl rfl (y_add rfl rfl (by simp only [inK]; omega)) ?_
                      refine o_val rfl rfl rfl (y_move (v := (.int _ _)) rfl) ?_
                      refine o_nil ?_
                      exact ⟨DB.mk (g.i + 1) (noteS (min (low % 21) (high % 21)) (max (low % 21) (high % 21)) g.now g.l g.calm (xs.getD ((g.i : Int)).toNat 0)).1 (noteS (min (low % 21) (high % 21)) (max (low % 21) (high % 21)) g.now g.l g.calm (xs.getD ((g.i : Int)).toNat 0)).2.1 (noteS (min (low % 21) (high % 21)) (max (low % 21) (high % 21)) g.now g.l g.calm (xs.getD ((g.i : Int)).toNat 0)).2.2 g.fell A' n' c' E', (by first | omega | (dsimp only; omega)), ⟨by dsimp only; omega, ho', hn', hbd, ⟨hcm.1, by have h1 := hcm.2.1; have h2 := hcm.2.2; dsimp only; omega⟩, by dsimp only; omega⟩, ⟨rfl, rfl, rfl, rfl, rfl, rfl, (congrArg (Value.int .i64) (by dsimp only; omega)), trivial⟩, sub_picks [0, 0] rfl⟩
              · have hnp := p12
                have hd := noteS_down (low := (min (low % 21) (high % 21))) (high := (max (low % 21) (high % 21))) (now := g.now) (xs := g.l) (calm := g.calm) (late := (xs.getD ((g.i : Int)).toNat 0)) hnow hnp
                refine o_guard_yes rfl rfl ?_
                refine o_val rfl rfl rfl (y_move (v := (.bool _)) rfl) ?_
                refine o_guard_no rfl rfl rfl rfl rfl ?_
                refine o_guard_no rfl rfl rfl rfl rfl ?_
                refine o_guard_no rfl rfl rfl rfl rfl ?_
                refine o_guard_no rfl rfl rfl rfl rfl ?_
                refine o_guard_no rfl rfl rfl rfl rfl ?_
                refine o_guard_no rfl rfl rfl rfl rfl ?_
                refine o_guard_no rfl rfl rfl rfl rfl ?_
                refine o_guard_no rfl rfl rfl rfl rfl ?_
                refine o_guard_no rfl rfl rfl rfl rfl ?_
                refine o_guard_no rfl rfl rfl rfl rfl ?_
                refine o_guard_yes rfl rfl ?_
                refine o_val rfl rfl rfl (y_pick_f (v := (.bool _)) rfl rfl) ?_
                refine o_val rfl rfl rfl (y_pick_f (v := (.bool _)) rfl rfl) ?_
                refine o_val rfl rfl rfl (y_move (v := (.bool _)) rfl) ?_
                refine o_guard_yes rfl rfl ?_
                refine o_val rfl rfl rfl (y_move (v := (.int _ _)) rfl) ?_
                refine o_guard_yes rfl rfl ?_
                refine o_split rfl rfl rfl (y_leq rfl rfl) (fun p33 => ?_) (fun p34 => ?_)
                · refine o_guard_yes rfl rfl ?_
                  refine o_val rfl rfl rfl (y_move (v := (.bool _)) rfl) ?_
                  refine o_guard_yes rfl rfl ?_
                  refine o_val rfl rfl rfl (y_move (v := (.int _ _)) rfl) ?_
                  refine o_guard_yes rfl rfl ?_
                  refine o_val rfl rfl rfl (y_move (v := (.int _ _)) rfl) ?_
                  refine o_guard_yes rfl rfl ?_
                  refine o_split rfl rfl rfl (y_gtr rfl rfl) (fun p35 => ?_) (fun p36 => ?_)
                  · exfalso; omega
                  · refine o_guard_yes rfl rfl ?_
                    refine o_val rfl rfl rfl (y_move (v := (.bool _)) rfl) ?_
                    refine o_guard_yes rfl rfl ?_
                    refine o_val rfl rfl rfl (y_move (v := (.int _ _)) rfl) ?_
                    refine o_guard_yes rfl rfl ?_
                    refine o_val rfl rfl rfl (y_move (v := (.int _ _)) rfl) ?_
                    refine o_guard_yes rfl rfl ?_
                    refine o_val rfl rfl rfl (y_sub rfl rfl (by simp only [inK]; omega)) ?_
                    refine o_guard_yes rfl rfl ?_
                    refine o_split rfl rfl rfl (y_lss rfl rfl) (fun p37 => ?_) (fun p38 => ?_)
                    · exfalso; omega
                    · refine o_guard_yes rfl rfl ?_
                      refine o_val rfl rfl rfl (y_pick_f (v := (.bool _)) rfl rfl) ?_
                      refine o_guard_yes rfl rfl ?_
                      refine o_val rfl rfl rfl (y_pick_t (v := (.bool _)) rfl rfl) ?_
                      refine o_val rfl rfl rfl (y_pick_f (v := (.bool _)) rfl rfl) ?_
                      refine o_nil ?_
                      refine s_else rfl ?_
                      refine s_skip ?_
                      refine s_seq ?_
                      refine s_region ?_
                      refine o_val rfl rfl rfl (y_move (v := (.int _ _)) rfl) ?_
                      refine o_split rfl rfl rfl (y_leq rfl rfl) (fun p39 => ?_) (fun p40 => ?_)
                      · refine o_val rfl rfl rfl (y_move (v := (.bool _)) rfl) ?_
                        refine o_guard_yes rfl rfl ?_
                        refine o_val rfl rfl rfl (y_move (v := (.int _ _)) rfl) ?_
                        refine o_guard_yes rfl rfl ?_
                        refine o_val rfl rfl rfl (y_move (v := (.int _ _)) rfl) ?_
                        refine o_guard_yes rfl rfl ?_
                        refine o_split rfl rfl rfl (y_lss rfl rfl) (fun p41 => ?_) (fun p42 => ?_)
                        · have hfl := p41
                          refine o_val rfl rfl rfl (y_pick_t (v := (.bool _)) rfl rfl) ?_
                          refine o_nil ?_
                          refine s_then rfl ?_
                          refine s_seq ?_
                          refine s_seq ?_
                          refine s_region ?_
                          refine o_val rfl rfl rfl (y_move (v := (.int _ _)) rfl) ?_
                          refine o_val rfl rfl rfl (y_add rfl rfl (by simp only [inK]; omega)) ?_
                          refine o_val rfl rfl rfl (y_move (v := (.int _ _)) rfl) ?_
                          refine o_val rfl rfl rfl (y_sub rfl rfl (by simp only [inK]; omega)) ?_
                          refine o_val rfl rfl rfl (y_lss rfl rfl) ?_
                          refine o_nil ?_
                          refine s_if rfl (fun h43 => ?_) (fun h44 => ?_)
                          · exfalso; omega
                          · refine s_skip ?_
                            refine s_region ?_
                            refine o_val rfl rfl rfl (y_move (v := (.int _ _)) rfl) ?_
                            refine o_val rfl rfl rfl (y_add rfl rfl (by simp only [inK]; omega)) ?_
                            refine o_val rfl rfl rfl (y_assign (v := (.int _ _)) rfl) ?_
                            refine o_nil ?_
                            refine s_region ?_
                            refine o_val rfl rfl rfl (y_add rfl rfl (by simp only [inK]; omega)) ?_
                            refine o_val rfl rfl rfl (y_move (v := (.int _ _)) rfl) ?_
                            refine o_nil ?_
                            exact ⟨DB.mk (g.i + 1) (noteS (min (low % 21) (high % 21)) (max (low % 21) (high % 21)) g.now g.l g.calm (xs.getD ((g.i : Int)).toNat 0)).1 (noteS (min (low % 21) (high % 21)) (max (low % 21) (high % 21)) g.now g.l g.calm (xs.getD ((g.i : Int)).toNat 0)).2.1 (noteS (min (low % 21) (high % 21)) (max (low % 21) (high % 21)) g.now g.l g.calm (xs.getD ((g.i : Int)).toNat 0)).2.2 ((g.i : Int) + 1) A' n' c' E', (by first | omega | (dsimp only; omega)), ⟨by dsimp only; omega, ho', hn', hbd, ⟨hcm.1, by have h1 := hcm.2.1; have h2 := hcm.2.2; dsimp only; omega⟩, by dsimp only; omega⟩, ⟨rfl, rfl, rfl, rfl, rfl, rfl, (congrArg (Value.int .i64) (by dsimp only; omega)), trivial⟩, sub_picks [0, 0] rfl⟩
                        · have hfl := p42
                          refine o_val rfl rfl rfl (y_pick_t (v := (.bool _)) rfl rfl) ?_
                          refine o_nil ?_
                          refine s_else rfl ?_
                          refine s_skip ?_
                          refine s_region ?_
                          refine o_val rfl rfl rfl (y_add rfl rfl (by simp only [inK]; omega)) ?_
                          refine o_val rfl rfl rfl (y_move (v := (.int _ _)) rfl) ?_
                          refine o_nil ?_
                          exact ⟨DB.mk (g.i + 1) (noteS (min (low % 21) (high % 21)) (max (low % 21) (high % 21)) g.now g.l g.calm (xs.getD ((g.i : Int)).toNat 0)).1 (noteS (min (low % 21) (high % 21)) (max (low % 21) (high % 21)) g.now g.l g.calm (xs.getD ((g.i : Int)).toNat 0)).2.1 (noteS (min (low % 21) (high % 21)) (max (low % 21) (high % 21)) g.now g.l g.calm (xs.getD ((g.i : Int)).toNat 0)).2.2 g.fell A' n' c' E', (by first | omega | (dsimp only; omega)), ⟨by dsimp only; omega, ho', hn', hbd, ⟨hcm.1, by have h1 := hcm.2.1; have h2 := hcm.2.2; dsimp only; omega⟩, by dsimp only; omega⟩, ⟨rfl, rfl, rfl, rfl, rfl, rfl, (congrArg (Value.int .i64) (by dsimp only; omega)), trivial⟩, sub_picks [0, 0] rfl⟩
                      · refine o_val rfl rfl rfl (y_move (v := (.bool _)) rfl) ?_
                        refine o_guard_no rfl rfl rfl rfl rfl ?_
                        refine o_guard_no rfl rfl rfl rfl rfl ?_
                        refine o_guard_no rfl rfl rfl rfl rfl ?_
                        refine o_val rfl rfl rfl (y_pick_f (v := (.bool _)) rfl rfl) ?_
                        refine o_nil ?_
                        refine s_else rfl ?_
                        refine s_skip ?_
                        refine s_region ?_
                        refine o_val rfl rfl rfl (y_add rfl rfl (by simp only [inK]; omega)) ?_
                        refine o_val rfl rfl rfl (y_move (v := (.int _ _)) rfl) ?_
                        refine o_nil ?_
                        exact ⟨DB.mk (g.i + 1) (noteS (min (low % 21) (high % 21)) (max (low % 21) (high % 21)) g.now g.l g.calm (xs.getD ((g.i : Int)).toNat 0)).1 (noteS (min (low % 21) (high % 21)) (max (low % 21) (high % 21)) g.now g.l g.calm (xs.getD ((g.i : Int)).toNat 0)).2.1 (noteS (min (low % 21) (high % 21)) (max (low % 21) (high % 21)) g.now g.l g.calm (xs.getD ((g.i : Int)).toNat 0)).2.2 g.fell A' n' c' E', (by first | omega | (dsimp only; omega)), ⟨by dsimp only; omega, ho', hn', hbd, ⟨hcm.1, by have h1 := hcm.2.1; have h2 := hcm.2.2; dsimp only; omega⟩, by dsimp only; omega⟩, ⟨rfl, rfl, rfl, rfl, rfl, rfl, (congrArg (Value.int .i64) (by dsimp only; omega)), trivial⟩, sub_picks [0, 0] rfl⟩
                · refine o_guard_yes rfl rfl ?_
                  refine o_val rfl rfl rfl (y_move (v := (.bool _)) rfl) ?_
                  refine o_guard_no rfl rfl rfl rfl rfl ?_
                  refine o_guard_no rfl rfl rfl rfl rfl ?_
                  refine o_guard_no rfl rfl rfl rfl rfl ?_
                  refine o_guard_no rfl rfl rfl rfl rfl ?_
                  refine o_guard_un rfl rfl rfl rfl ?_
                  refine o_guard_un rfl rfl rfl rfl ?_
                  refine o_guard_un rfl rfl rfl rfl ?_
                  refine o_guard_un rfl rfl rfl rfl ?_
                  refine o_guard_no rfl rfl rfl rfl rfl ?_
                  refine o_guard_yes rfl rfl ?_
                  refine o_val rfl rfl rfl (y_pick_f (v := (.bool _)) rfl rfl) ?_
                  refine o_val rfl rfl rfl (y_pick_f (v := (.bool _)) rfl rfl) ?_
                  refine o_nil ?_
                  refine s_else rfl ?_
                  refine s_skip ?_
                  refine s_seq ?_
                  refine s_region ?_
                  refine o_val rfl rfl rfl (y_move (v := (.int _ _)) rfl) ?_
                  refine o_split rfl rfl rfl (y_leq rfl rfl) (fun p45 => ?_) (fun p46 => ?_)
                  · refine o_val rfl rfl rfl (y_move (v := (.bool _)) rfl) ?_
                    refine o_guard_yes rfl rfl ?_
                    refine o_val rfl rfl rfl (y_move (v := (.int _ _)) rfl) ?_
                    refine o_guard_yes rfl rfl ?_
                    refine o_val rfl rfl rfl (y_move (v := (.int _ _)) rfl) ?_
                    refine o_guard_yes rfl rfl ?_
                    refine o_split rfl rfl rfl (y_lss rfl rfl) (fun p47 => ?_) (fun p48 => ?_)
                    · have hfl := p47
                      refine o_val rfl rfl rfl (y_pick_t (v := (.bool _)) rfl rfl) ?_
                      refine o_nil ?_
                      refine s_then rfl ?_
                      refine s_seq ?_
                      refine s_seq ?_
                      refine s_region ?_
                      refine o_val rfl rfl rfl (y_move (v := (.int _ _)) rfl) ?_
                      refine o_val rfl rfl rfl (y_add rfl rfl (by simp only [inK]; omega)) ?_
                      refine o_val rfl rfl rfl (y_move (v := (.int _ _)) rfl) ?_
                      refine o_val rfl rfl rfl (y_sub rfl rfl (by simp only [inK]; omega)) ?_
                      refine o_val rfl rfl rfl (y_lss rfl rfl) ?_
                      refine o_nil ?_
                      refine s_if rfl (fun h49 => ?_) (fun h50 => ?_)
                      · exfalso; omega
                      · refine s_skip ?_
                        refine s_region ?_
                        refine o_val rfl rfl rfl (y_move (v := (.int _ _)) rfl) ?_
                        refine o_val rfl rfl rfl (y_add rfl rfl (by simp only [inK]; omega)) ?_
                        refine o_val rfl rfl rfl (y_assign (v := (.int _ _)) rfl) ?_
                        refine o_nil ?_
                        refine s_region ?_
                        refine o_val rfl rfl rfl (y_add rfl rfl (by simp only [inK]; omega)) ?_
                        refine o_val rfl rfl rfl (y_move (v := (.int _ _)) rfl) ?_
                        refine o_nil ?_
                        exact ⟨DB.mk (g.i + 1) (noteS (min (low % 21) (high % 21)) (max (low % 21) (high % 21)) g.now g.l g.calm (xs.getD ((g.i : Int)).toNat 0)).1 (noteS (min (low % 21) (high % 21)) (max (low % 21) (high % 21)) g.now g.l g.calm (xs.getD ((g.i : Int)).toNat 0)).2.1 (noteS (min (low % 21) (high % 21)) (max (low % 21) (high % 21)) g.now g.l g.calm (xs.getD ((g.i : Int)).toNat 0)).2.2 ((g.i : Int) + 1) A' n' c' E', (by first | omega | (dsimp only; omega)), ⟨by dsimp only; omega, ho', hn', hbd, ⟨hcm.1, by have h1 := hcm.2.1; have h2 := hcm.2.2; dsimp only; omega⟩, by dsimp only; omega⟩, ⟨rfl, rfl, rfl, rfl, rfl, rfl, (congrArg (Value.int .i64) (by dsimp only; omega)), trivial⟩, sub_picks [0, 0] rfl⟩
                    · have hfl := p48
                      refine o_val rfl rfl rfl (y_pick_t (v := (.bool _)) rfl rfl) ?_
                      refine o_nil ?_
                      refine s_else rfl ?_
                      refine s_skip ?_
                      refine s_region ?_
                      refine o_val rfl rfl rfl (y_add rfl rfl (by simp only [inK]; omega)) ?_
                      refine o_val rfl rfl rfl (y_move (v := (.int _ _)) rfl) ?_
                      refine o_nil ?_
                      exact ⟨DB.mk (g.i + 1) (noteS (min (low % 21) (high % 21)) (max (low % 21) (high % 21)) g.now g.l g.calm (xs.getD ((g.i : Int)).toNat 0)).1 (noteS (min (low % 21) (high % 21)) (max (low % 21) (high % 21)) g.now g.l g.calm (xs.getD ((g.i : Int)).toNat 0)).2.1 (noteS (min (low % 21) (high % 21)) (max (low % 21) (high % 21)) g.now g.l g.calm (xs.getD ((g.i : Int)).toNat 0)).2.2 g.fell A' n' c' E', (by first | omega | (dsimp only; omega)), ⟨by dsimp only; omega, ho', hn', hbd, ⟨hcm.1, by have h1 := hcm.2.1; have h2 := hcm.2.2; dsimp only; omega⟩, by dsimp only; omega⟩, ⟨rfl, rfl, rfl, rfl, rfl, rfl, (congrArg (Value.int .i64) (by dsimp only; omega)), trivial⟩, sub_picks [0, 0] rfl⟩
                  · refine o_val rfl rfl rfl (y_move (v := (.bool _)) rfl) ?_
                    refine o_guard_no rfl rfl rfl rfl rfl ?_
                    refine o_guard_no rfl rfl rfl rfl rfl ?_
                    refine o_guard_no rfl rfl rfl rfl rfl ?_
                    refine o_val rfl rfl rfl (y_pick_f (v := (.bool _)) rfl rfl) ?_
                    refine o_nil ?_
                    refine s_else rfl ?_
                    refine s_skip ?_
                    refine s_region ?_
                    refine o_val rfl rfl rfl (y_add rfl rfl (by simp only [inK]; omega)) ?_
                    refine o_val rfl rfl rfl (y_move (v := (.int _ _)) rfl) ?_
                    refine o_nil ?_
                    exact ⟨DB.mk (g.i + 1) (noteS (min (low % 21) (high % 21)) (max (low % 21) (high % 21)) g.now g.l g.calm (xs.getD ((g.i : Int)).toNat 0)).1 (noteS (min (low % 21) (high % 21)) (max (low % 21) (high % 21)) g.now g.l g.calm (xs.getD ((g.i : Int)).toNat 0)).2.1 (noteS (min (low % 21) (high % 21)) (max (low % 21) (high % 21)) g.now g.l g.calm (xs.getD ((g.i : Int)).toNat 0)).2.2 g.fell A' n' c' E', (by first | omega | (dsimp only; omega)), ⟨by dsimp only; omega, ho', hn', hbd, ⟨hcm.1, by have h1 := hcm.2.1; have h2 := hcm.2.2; dsimp only; omega⟩, by dsimp only; omega⟩, ⟨rfl, rfl, rfl, rfl, rfl, rfl, (congrArg (Value.int .i64) (by dsimp only; omega)), trivial⟩, sub_picks [0, 0] rfl⟩
        · refine s_exit ?_
          refine s_seq ?_
          refine s_region ?_
          refine o_fn 0 (d := 118) rfl Try.call5 (NewD_ok _ _ (by omega)) rfl ?_
          rintro _ _ ⟨b2, rfl, rfl⟩
          refine o_val rfl rfl rfl (y_move (v := (.tuple #[(.pointer _), (.int _ _)])) rfl) ?_
          refine o_val rfl rfl rfl (y_extract (v := (.pointer _)) rfl rfl) ?_
          refine o_val rfl rfl rfl (y_extract (v := (.int _ _)) rfl rfl) ?_
          refine o_val rfl rfl rfl (y_assign (v := (.pointer _)) rfl) ?_
          refine o_val rfl rfl rfl (y_assign (v := (.int _ _)) rfl) ?_
          refine o_nil ?_
          refine s_seq ?_
          refine s_seq ?_
          refine s_region ?_
          refine o_val rfl rfl rfl (y_move (v := (.int _ _)) rfl) ?_
          refine o_split rfl rfl rfl (y_neq rfl rfl) (fun p51 => ?_) (fun p52 => ?_)
          · exact absurd rfl p51
          · refine o_val rfl rfl rfl (y_move (v := (.bool _)) rfl) ?_
            refine o_guard_yes rfl rfl ?_
            refine o_val rfl rfl rfl (y_move (v := (.pointer _)) rfl) ?_
            refine o_guard_yes rfl rfl ?_
            refine o_val rfl rfl rfl ((y_eql_ptr_nil (by kernel_rfl) rfl rfl).bf rfl) ?_
            refine o_val rfl rfl rfl (y_pick_f (v := (.bool _)) rfl rfl) ?_
            refine o_nil ?_
            refine s_else rfl ?_
            refine s_skip ?_
            refine s_seq ?_
            refine s_region ?_
            refine o_val rfl rfl rfl (y_move (v := (.pointer _)) rfl) ?_
            refine o_fn 2 (d := 128) rfl Try.call6 (NoteD_c b2 1 5 1 none 0 0 0 [] [] (OS.nil _ _) (by omega) (by omega) (by omega) (by omega) (by omega) 2 (by simp only [inK]; omega)) rfl ?_
            rintro _ _ ⟨rfl, nA, nn, nc, nE, nho, nh9, rfl⟩
            refine o_nil ?_
            refine s_forget [(16, (.pointer _))] ⟨rfl, trivial⟩ (fun _f => ?_)
            refine s_seq ?_
            refine s_region ?_
            refine o_val rfl rfl rfl (y_move (v := (.pointer _)) rfl) ?_
            refine o_fn 1 (d := 130) rfl Try.call7 (ValueD_c _ _ _ _ _ _ _ _) rfl ?_
            rintro _ _ ⟨rfl, rfl⟩
            refine o_val rfl rfl rfl (y_eql rfl rfl) ?_
            refine o_val rfl rfl rfl (y_assign (v := (.bool _)) rfl) ?_
            refine o_nil ?_
            refine s_ret ?_
            exact ⟨_, [], res1 rfl rfl, ⟨congrArg Value.bool (decide_eq_true (by decide +kernel)), rfl⟩, sub_picks [] rfl⟩

end Go.Proofs.Ytmdbmeilmhjjaaa.K
