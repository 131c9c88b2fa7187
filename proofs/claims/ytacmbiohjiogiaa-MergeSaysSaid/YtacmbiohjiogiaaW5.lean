/- Walks over the package tourmake: numbers of a stream, kinds, components, worlds. No condition beyond what each statement names. -/
import Derived.Test.YtacmbiohjiogiaaProg
import Derived.Test.YtacmbiohjiogiaaK17
import Derived.Test.YtacmbiohjiogiaaM1
import Derived.Test.YtacmbiohjiogiaaM2
import Derived.Test.YtacmbiohjiogiaaW1
import Derived.Test.YtacmbiohjiogiaaW2
import Derived.Test.YtacmbiohjiogiaaW3
set_option linter.unusedVariables false
set_option linter.unusedSimpArgs false
set_option maxRecDepth 100000
namespace Go.Proofs.Ytacmbiohjiogiaa.K
open Go.RowKit

theorem tmod_bd (v : Int) {n : Int} (hn : 0 < n) : -n < v.tmod n ∧ v.tmod n < n := ⟨Int.lt_tmod_of_pos v hn, Int.tmod_lt_of_pos v hn⟩

theorem Below_c {V : Mem} (v n : Int) (hn : 0 < n ∧ n ≤ 4611686018427387904) : CallS Try.prog 18 [.int .i64 v, .int .i64 n].toArray V [] (fun r L' => ∃ k : Int, r = .int .i64 k ∧ 0 ≤ k ∧ k < n ∧ L' = []) := by
 have hm := tmod_bd v hn.1; refine callS Try.func18 rfl rfl (fun w0 => ?_); refine s_seq (s_region ?_); refine o_val rfl rfl rfl (y_assign (v := (.int _ _)) rfl) (o_nil ?_); refine s_seq (s_region ?_); refine o_val rfl rfl rfl (y_move (v := (.int _ _)) rfl) ?_; refine o_val rfl rfl rfl (y_move (v := (.int _ _)) rfl) ?_; refine o_val rfl rfl rfl (y_rem' rfl rfl (by omega)) ?_; refine o_val rfl rfl rfl (y_assign (v := (.int _ _)) rfl) (o_nil ?_); refine s_seq ?_; refine s_seq (s_region ?_); refine o_val rfl rfl rfl (y_move (v := (.int _ _)) rfl) ?_; refine o_val rfl rfl rfl (y_lss rfl rfl) (o_nil ?_); refine s_if rfl (fun h1 => ?_) (fun h2 => ?_)
 ·refine s_region ?_; refine o_val rfl rfl rfl (y_move (v := (.int _ _)) rfl) ?_; refine o_val rfl rfl rfl (y_move (v := (.int _ _)) rfl) ?_; refine o_val rfl rfl rfl (y_add rfl rfl (by simp only [inK]; omega)) ?_; refine o_val rfl rfl rfl (y_assign (v := (.int _ _)) rfl) (o_nil ?_); refine s_seq (s_region ?_); refine o_val rfl rfl rfl (y_move (v := (.int _ _)) rfl) ?_; refine o_val rfl rfl rfl (y_assign (v := (.int _ _)) rfl) (o_nil ?_); refine s_ret ?_; exact ⟨_, _, res1 rfl rfl, ⟨_, rfl, by omega, by omega, rfl⟩, sub_front ⟨_, rfl⟩⟩
 ·refine s_skip ?_; refine s_seq (s_region ?_); refine o_val rfl rfl rfl (y_move (v := (.int _ _)) rfl) ?_; refine o_val rfl rfl rfl (y_assign (v := (.int _ _)) rfl) (o_nil ?_); refine s_ret ?_; exact ⟨_, _, res1 rfl rfl, ⟨_, rfl, by omega, by omega, rfl⟩, sub_front ⟨_, rfl⟩⟩

/-- A stream's block. -/
def stgrp (b : Nat) (A : Option Addr) (n c : Nat) : Grp := [(b, .cells [.slice A n c].toArray 174 (0, 0))]
/-- A stream: its numbers lie in the memory 'V0'. -/
def Strm (V0 : Mem) (b : Nat) (G : Grp) : Prop := ∃ (A : Option Addr) (n c : Nat) (xs : List Int), G = stgrp b A n c ∧ xs.length = n ∧ n ≤ c ∧ Cels V0 [] A (xs.map (.int .i64))
theorem Strm.new {V0 : Mem} {b : Nat} {A : Option Addr} {n c : Nat} {xs : List Int} (h : Cels V0 [] A (xs.map (.int .i64))) (hn : xs.length = n) (hc : n ≤ c) : Strm V0 b (stgrp b A n c) := ⟨A, n, c, xs, rfl, hn, hc, h⟩

theorem NextS_c {V V0 : Mem} {sb : Nat} {G : Grp} (hst : Strm V0 sb G) {hm0 : MSub V0 V} (m : Int) (hm : m ≤ 4611686018427387904) : CallS Try.prog 87 [.pointer (some ⟨sb, 0, none⟩), .int .i64 m].toArray V [G] (fun r L' => ∃ (k : Int) (G' : Grp), r = .int .i64 k ∧ 0 ≤ k ∧ (0 < m → k < m) ∧ Strm V0 sb G' ∧ L' = [G']) := by
 obtain ⟨A, n, c, xs, rfl, hxl, hc, h⟩ := hst; refine callS Try.func87 rfl rfl (fun w0 => ?_); refine s_seq (s_region ?_); refine o_val rfl rfl rfl (y_assign (v := (.int _ _)) rfl) (o_nil ?_); refine s_seq ?_; refine s_seq (s_region ?_); refine o_val rfl rfl rfl (y_move (v := (.pointer _)) rfl) ?_; refine o_val rfl rfl rfl (y_nilCheck rfl) ?_; refine o_val rfl rfl rfl (y_field0 Try.runUnderlying174 rfl Try.sizeOf22 rfl rfl) ?_; refine o_val rfl rfl rfl (y_load Try.isAgg22 rfl (cel_own 0 rfl rfl)) ?_; refine o_val rfl rfl rfl (y_len Try.runUnderlying22 rfl) ?_; refine o_split rfl rfl rfl (y_eql rfl rfl) (fun p1 => ?_) (fun p2 => ?_)
 ·have h0 : n = 0 := by omega
  refine o_val rfl rfl rfl (y_move (v := (.bool _)) rfl) ?_; refine o_guard_no rfl rfl rfl rfl rfl ?_; refine o_guard_no rfl rfl rfl rfl rfl ?_; refine o_val rfl rfl rfl (y_pick_t (v := (.bool _)) rfl rfl) (o_nil ?_); refine s_then rfl ?_; refine s_seq (s_region ?_); refine o_val rfl rfl rfl (y_assign (v := (.int _ _)) rfl) (o_nil ?_); refine s_ret ?_; exact ⟨_, [_], res1 rfl rfl, ⟨_, _, rfl, by omega, fun h0 => by omega, Strm.new h hxl hc, rfl⟩, sub_front ⟨_, rfl⟩⟩
 ·have h0 : ¬ n = 0 := by omega
  refine o_val rfl rfl rfl (y_move (v := (.bool _)) rfl) ?_; refine o_guard_yes rfl rfl ?_; refine o_val rfl rfl rfl (y_move (v := (.int _ _)) rfl) ?_; refine o_guard_yes rfl rfl ?_; refine o_val rfl rfl rfl (y_lss rfl rfl) ?_; refine o_val rfl rfl rfl (y_pick_f (v := (.bool _)) rfl rfl) (o_nil ?_); refine s_if rfl (fun h3 => ?_) (fun h4 => ?_)
  ·refine s_seq (s_region ?_); refine o_val rfl rfl rfl (y_assign (v := (.int _ _)) rfl) (o_nil ?_); refine s_ret ?_; exact ⟨_, [_], res1 rfl rfl, ⟨_, _, rfl, by omega, fun h0 => by omega, Strm.new h hxl hc, rfl⟩, sub_front ⟨_, rfl⟩⟩
  ·refine s_skip ?_; refine s_seq (s_region ?_); refine o_val rfl rfl rfl (y_move (v := (.pointer _)) rfl) ?_; refine o_val rfl rfl rfl (y_nilCheck rfl) ?_; refine o_val rfl rfl rfl (y_field0 Try.runUnderlying174 rfl Try.sizeOf22 rfl rfl) ?_; refine o_val rfl rfl rfl (y_load Try.isAgg22 rfl (cel_own 0 rfl rfl)) ?_; refine o_val rfl rfl rfl (y_index1 Try.runUnderlying22 Try.sizeOf3 (some_int (i := 0) (h.ms hm0) (by omega)) rfl rfl (by omega)) ?_; refine o_val rfl rfl rfl (y_load Try.isAgg3 rfl (cel_int (h.ms hm0).here (by omega))) ?_; refine o_val rfl rfl rfl (y_assign (v := (.int _ _)) rfl) (o_nil ?_); refine s_forget [(0, (.pointer _)), (1, (.int _ _)), (4, (.int _ _)), (5, (.int _ _))] ⟨rfl, rfl, rfl, rfl, trivial⟩ (fun _f => ?_); refine s_seq (s_region ?_); refine o_val rfl rfl rfl (y_move (v := (.pointer _)) rfl) ?_; refine o_val rfl rfl rfl (y_move (v := (.pointer _)) rfl) ?_; refine o_val rfl rfl rfl (y_nilCheck rfl) ?_; refine o_val rfl rfl rfl (y_field0 Try.runUnderlying174 rfl Try.sizeOf22 rfl rfl) ?_; refine o_val rfl rfl rfl (y_load Try.isAgg22 rfl (cel_own 0 rfl rfl)) ?_; refine o_val rfl rfl rfl (y_cut_lo Try.runUnderlying22 Try.sizeOf3 rfl rfl (by omega)) ?_; refine o_val rfl rfl rfl (y_nilCheck rfl) ?_; refine o_val rfl rfl rfl (y_field0 Try.runUnderlying174 rfl Try.sizeOf22 rfl rfl) ?_; refine o_store (v := (.slice _ _ _)) 0 rfl Try.sizeOf22 rfl rfl rfl rfl (o_nil ?_); refine s_seq (s_region ?_); refine o_val rfl rfl rfl (y_move (v := (.int _ _)) rfl) ?_; refine o_val rfl rfl rfl (y_move (v := (.int _ _)) rfl) ?_; refine o_fn 0 (d := 32) rfl Try.call18 (Below_c _ _ (by omega)) rfl ?_; rintro _ _ ⟨k, rfl, hk0, hk1, rfl⟩; refine o_val rfl rfl rfl (y_assign (v := (.int _ _)) rfl) (o_nil ?_); refine s_ret ?_; exact ⟨_, [_], res1 rfl rfl, ⟨_, _, rfl, hk0, fun _ => hk1, Strm.new (xs := xs.drop 1) (by have := h.cut c 1 1 (n - 1) (fun e => by omega); rw [Nat.mul_one, ← List.map_drop, List.take_of_length_le (by simp; omega)] at this; exact this) (by rw [List.length_drop]; omega) (by omega), rfl⟩, sub_front ⟨_, rfl⟩⟩

end Go.Proofs.Ytacmbiohjiogiaa.K
