/- Walks: numbers drawn from a stream, frames made of them, and the laws on packing and unpacking. No condition beyond what each statement names. -/
import Derived.Test.YtppciokaldmipaaProg
import Derived.Test.YtppciokaldmipaaK8
import Derived.Test.YtppciokaldmipaaB4
import Derived.Test.YtppciokaldmipaaI1
import Derived.Test.YtppciokaldmipaaI2
import Derived.Test.YtppciokaldmipaaI3
import Derived.Test.YtppciokaldmipaaI4
import Derived.Test.YtppciokaldmipaaI5
import Derived.Test.YtppciokaldmipaaI6
import Derived.Test.YtppciokaldmipaaI7
import Derived.Test.YtppciokaldmipaaI8
import Derived.Test.YtppciokaldmipaaI9
set_option linter.unusedVariables false
set_option linter.unusedSimpArgs false
set_option maxRecDepth 100000
namespace Go.Proofs.Ytppciokaldmipaa.K
open Go.RowKit

theorem tmod_bd (v : Int) {n : Int} (hn : 0 < n) : -n < v.tmod n ∧ v.tmod n < n := ⟨Int.lt_tmod_of_pos v hn, Int.tmod_lt_of_pos v hn⟩

theorem Below_c {V : Mem} (v n : Int) (hn : 0 < n ∧ n ≤ 4611686018427387904) : CallS Try.prog 38 [.int .i64 v, .int .i64 n].toArray V [] (fun r L' => ∃ k : Int, r = .int .i64 k ∧ 0 ≤ k ∧ k < n ∧ L' = []) := by
  have hm := tmod_bd v hn.1
  refine callS Try.func38 rfl rfl (fun w0 => ?_)
  refine s_seq ?_
  refine s_region ?_
  refine o_val rfl rfl rfl (y_assign (v := (.int _ _)) rfl) ?_
  refine o_nil ?_
  refine s_seq ?_
  refine s_region ?_
  refine o_val rfl rfl rfl (y_move (v := (.int _ _)) rfl) ?_
  refine o_val rfl rfl rfl (y_move (v := (.int _ _)) rfl) ?_
  refine o_val rfl rfl rfl (y_rem' rfl rfl (by omega)) ?_
  refine o_val rfl rfl rfl (y_assign (v := (.int _ _)) rfl) ?_
  refine o_nil ?_
  refine s_seq ?_
  refine s_seq ?_
  refine s_region ?_
  refine o_val rfl rfl rfl (y_move (v := (.int _ _)) rfl) ?_
  refine o_val rfl rfl rfl (y_lss rfl rfl) ?_
  refine o_nil ?_
  refine s_if rfl (fun h1 => ?_) (fun h2 => ?_)
  · refine s_region ?_
    refine o_val rfl rfl rfl (y_move (v := (.int _ _)) rfl) ?_
    refine o_val rfl rfl rfl (y_move (v := (.int _ _)) rfl) ?_
    refine o_val rfl rfl rfl (y_add rfl rfl (by simp only [inK]; omega)) ?_
    refine o_val rfl rfl rfl (y_assign (v := (.int _ _)) rfl) ?_
    refine o_nil ?_
    refine s_seq ?_
    refine s_region ?_
    refine o_val rfl rfl rfl (y_move (v := (.int _ _)) rfl) ?_
    refine o_val rfl rfl rfl (y_assign (v := (.int _ _)) rfl) ?_
    refine o_nil ?_
    refine s_ret ?_
    exact ⟨_, _, res1 rfl rfl, ⟨_, rfl, by omega, by omega, rfl⟩, sub_front ⟨_, rfl⟩⟩
  · refine s_skip ?_
    refine s_seq ?_
    refine s_region ?_
    refine o_val rfl rfl rfl (y_move (v := (.int _ _)) rfl) ?_
    refine o_val rfl rfl rfl (y_assign (v := (.int _ _)) rfl) ?_
    refine o_nil ?_
    refine s_ret ?_
    exact ⟨_, _, res1 rfl rfl, ⟨_, rfl, by omega, by omega, rfl⟩, sub_front ⟨_, rfl⟩⟩

/-- A stream's block. -/
def stgrp (b : Nat) (A : Option Addr) (n c : Nat) : Grp := [(b, .cells [.slice A n c].toArray 128 (0, 0))]
/-- Numbers that lie where a slice says. -/
def Nums (V : Mem) (A : Option Addr) (n : Nat) : Prop := ∃ xs : List Int, xs.length = n ∧ Cels V [] A (xs.map (.int .i64))

theorem Nums.lift {V : Mem} {R : List Grp} {A : Option Addr} {n : Nat} (h : Nums V A n) : Nums (ext V R) A n := by
  obtain ⟨xs, h1, h2⟩ := h; exact ⟨xs, h1, h2.here.down⟩
def nxA (A : Option Addr) (n c : Nat) : Option Addr := if n = 0 then A else cutA A c 1 1
def nxC (n c : Nat) : Nat := if n = 0 then c else c - 1
theorem nums_next {V : Mem} {A : Option Addr} {n c : Nat} (h : Nums V A n) (hc : n ≤ c) : Nums V (nxA A n c) (n - 1) := by
  obtain ⟨xs, h1, h2⟩ := h
  unfold nxA
  split
  · rename_i e; subst e; exact ⟨xs, by omega, h2⟩
  · have := h2.cut c 1 1 (n - 1) (fun e => by omega)
    rw [Nat.mul_one, ← List.map_drop, ← List.map_take] at this
    exact ⟨(xs.drop 1).take (n - 1), by simp; omega, this⟩
theorem cap_next {n c : Nat} (hc : n ≤ c) : n - 1 ≤ nxC n c := by unfold nxC; split <;> omega

theorem Next_c {V : Mem} (sb : Nat) (A : Option Addr) (n c : Nat) (hx : Nums V A n) (hc : n ≤ c) (m : Int) (hm : 0 < m ∧ m ≤ 4611686018427387904) : CallS Try.prog 77 [.pointer (some ⟨sb, 0, none⟩), .int .i64 m].toArray V [stgrp sb A n c] (fun r L' => ∃ k, r = .int .i64 k ∧ 0 ≤ k ∧ k < m ∧ L' = [stgrp sb (nxA A n c) (n - 1) (nxC n c)]) := by
  obtain ⟨xs, hxl, h⟩ := hx
  refine callS Try.func77 rfl rfl (fun w0 => ?_)
  refine s_seq ?_
  refine s_region ?_
  refine o_val rfl rfl rfl (y_assign (v := (.int _ _)) rfl) ?_
  refine o_nil ?_
  refine s_seq ?_
  refine s_seq ?_
  refine s_region ?_
  refine o_val rfl rfl rfl (y_move (v := (.pointer _)) rfl) ?_
  refine o_val rfl rfl rfl (y_nilCheck rfl) ?_
  refine o_val rfl rfl rfl (y_field0 Try.runUnderlying128 rfl Try.sizeOf41 rfl rfl) ?_
  refine o_val rfl rfl rfl (y_load Try.isAgg41 rfl (cel_own 0 rfl rfl)) ?_
  refine o_val rfl rfl rfl (y_len Try.runUnderlying41 rfl) ?_
  refine o_split rfl rfl rfl (y_eql rfl rfl) (fun p1 => ?_) (fun p2 => ?_)
  · have h0 : n = 0 := by omega
    refine o_val rfl rfl rfl (y_move (v := (.bool _)) rfl) ?_
    refine o_guard_no rfl rfl rfl rfl rfl ?_
    refine o_guard_no rfl rfl rfl rfl rfl ?_
    refine o_val rfl rfl rfl (y_pick_t (v := (.bool _)) rfl rfl) ?_
    refine o_nil ?_
    refine s_then rfl ?_
    refine s_seq ?_
    refine s_region ?_
    refine o_val rfl rfl rfl (y_assign (v := (.int _ _)) rfl) ?_
    refine o_nil ?_
    refine s_ret ?_
    exact ⟨_, [_], res1 rfl rfl, ⟨_, rfl, by omega, by omega, by unfold nxA nxC; rw [if_pos h0, if_pos h0, h0]⟩, sub_front ⟨_, rfl⟩⟩
  · have h0 : ¬ n = 0 := by omega
    refine o_val rfl rfl rfl (y_move (v := (.bool _)) rfl) ?_
    refine o_guard_yes rfl rfl ?_
    refine o_val rfl rfl rfl (y_move (v := (.int _ _)) rfl) ?_
    refine o_guard_yes rfl rfl ?_
    refine o_val rfl rfl rfl (y_lss rfl rfl) ?_
    refine o_val rfl rfl rfl (y_pick_f (v := (.bool _)) rfl rfl) ?_
    refine o_nil ?_
    refine s_if rfl (fun h3 => ?_) (fun h4 => ?_)
    · exfalso; omega
    · refine s_skip ?_
      refine s_seq ?_
      refine s_region ?_
      refine o_val rfl rfl rfl (y_move (v := (.pointer _)) rfl) ?_
      refine o_val rfl rfl rfl (y_nilCheck rfl) ?_
      refine o_val rfl rfl rfl (y_field0 Try.runUnderlying128 rfl Try.sizeOf41 rfl rfl) ?_
      refine o_val rfl rfl rfl (y_load Try.isAgg41 rfl (cel_own 0 rfl rfl)) ?_
      refine o_val rfl rfl rfl (y_index1 Try.runUnderlying41 Try.sizeOf3 (some_int (i := 0) h (by omega)) rfl rfl (by omega)) ?_
      refine o_val rfl rfl rfl (y_load Try.isAgg3 rfl (cel_int h.here (by omega))) ?_
      refine o_val rfl rfl rfl (y_assign (v := (.int _ _)) rfl) ?_
      refine o_nil ?_
      refine s_seq ?_
      refine s_region ?_
      refine o_val rfl rfl rfl (y_move (v := (.pointer _)) rfl) ?_
      refine o_val rfl rfl rfl (y_move (v := (.pointer _)) rfl) ?_
      refine o_val rfl rfl rfl (y_nilCheck rfl) ?_
      refine o_val rfl rfl rfl (y_field0 Try.runUnderlying128 rfl Try.sizeOf41 rfl rfl) ?_
      refine o_val rfl rfl rfl (y_load Try.isAgg41 rfl (cel_own 0 rfl rfl)) ?_
      refine o_val rfl rfl rfl (y_cut_lo Try.runUnderlying41 Try.sizeOf3 rfl rfl (by omega)) ?_
      refine o_val rfl rfl rfl (y_nilCheck rfl) ?_
      refine o_val rfl rfl rfl (y_field0 Try.runUnderlying128 rfl Try.sizeOf41 rfl rfl) ?_
      refine o_store (v := (.slice _ _ _)) 0 rfl Try.sizeOf41 rfl rfl rfl rfl ?_
      refine o_nil ?_
      refine s_seq ?_
      refine s_region ?_
      refine o_val rfl rfl rfl (y_move (v := (.int _ _)) rfl) ?_
      refine o_val rfl rfl rfl (y_move (v := (.int _ _)) rfl) ?_
      refine o_fn 0 (d := 32) rfl Try.call38 (Below_c _ _ hm) rfl ?_
      rintro _ _ ⟨k, rfl, hk0, hk1, rfl⟩
      refine o_val rfl rfl rfl (y_assign (v := (.int _ _)) rfl) ?_
      refine o_nil ?_
      refine s_ret ?_
      exact ⟨_, [_], res1 rfl rfl, ⟨_, rfl, hk0, hk1, by unfold nxA nxC; rw [if_neg h0, if_neg h0]; rfl⟩, sub_front ⟨_, rfl⟩⟩

theorem inp_ok {k x y : Int} (hk : 0 ≤ k ∧ k < 256) (hx : 0 ≤ x ∧ x < 256) (hy : 0 ≤ y ∧ y < 256) : (⟨k, x - 128, y - 128⟩ : Inp).ok := ⟨by dsimp only; omega, by dsimp only; omega, by dsimp only; omega, by dsimp only; omega, by dsimp only; omega, by dsimp only; omega⟩
theorem all_app {xs : List Inp} {x : Inp} (h : ∀ i ∈ xs, i.ok) (hx : x.ok) : ∀ i ∈ xs ++ [x], i.ok := by
  intro i hi
  rcases List.mem_append.1 hi with hi | hi
  · exact h i hi
  · simp at hi; rw [hi]; exact hx

theorem Inputs_k0 (v0A : Option Addr) (v0n : Nat) (v0c : Nat) (w : World) : (Instr.build 128 ([(0, (.slice v0A v0n v0c))] : List (Nat × Value)).toArray).run Try.prog w = .ok (.agg #[.slice v0A v0n v0c]) w := by kernel_rfl
theorem Inputs_k1 (v0 : Int) (v1 : Int) (v2 : Int) (w : World) : (Instr.build 24 ([(0, (.int .i64 v0)), (1, (.int .i64 v1)), (2, (.int .i64 v2))] : List (Nat × Value)).toArray).run Try.prog w = .ok (.agg #[.int .i64 v0, .int .i64 v1, .int .i64 v2]) w := by kernel_rfl
theorem Inputs_k2 (v0x0 : Int) (v0x1 : Int) (v0x2 : Int) (w : World) : (Instr.buildSlice 22 1 ([(0, (.agg #[(.int .i64 v0x0), (.int .i64 v0x1), (.int .i64 v0x2)]))] : List (Nat × Value)).toArray).run Try.prog w = .ok (.slice (some ⟨w.heap.size, 0, none⟩) 1 1) { w with heap := w.heap.push (.cells ([.int .i64 v0x0, .int .i64 v0x1, .int .i64 v0x2] : List Value).toArray 24 (0, 0)) } := by kernel_rfl
theorem Inputs_c {V : Mem} (n : Nat) (hn : n ≤ 1000) (A : Option Addr) (m c : Nat) (hnum : Nums V A m) (hcap : m ≤ c) : CallS Try.prog 39 [.int .i64 n, .slice A m c].toArray V [] (fun r L' => ∃ (R : Option Addr) (e : Nat) (xs : List Inp) (G : Grp), r = .slice R n e ∧ xs.length = n ∧ (∀ i ∈ xs, i.ok) ∧ OS R n e 24 3 (xs.flatMap encI) G ∧ L' = [G]) := by
  refine callS Try.func39 rfl rfl (fun w0 => ?_)
  refine s_seq ?_
  refine s_region ?_
  refine o_val rfl rfl rfl (y_assign (v := (.slice _ _ _)) rfl) ?_
  refine o_nil ?_
  refine s_seq ?_
  refine s_region ?_
  refine o_val rfl rfl rfl (y_move (v := (.slice _ _ _)) rfl) ?_
  refine o_val rfl rfl rfl (y_build (vs := [(0, .slice _ _ _)]) rfl (Inputs_k0 _ _ _)) ?_
  refine o_box (v := (.agg #[(.slice _ _ _)])) rfl rfl rfl (fun b1 => ?_)
  refine o_val rfl rfl rfl (y_assign (v := (.pointer _)) rfl) ?_
  refine o_nil ?_
  refine s_seq ?_
  refine s_region ?_
  refine o_val rfl rfl rfl (y_assign (v := (.slice _ _ _)) rfl) ?_
  refine o_nil ?_
  refine s_seq ?_
  refine s_seq ?_
  refine s_region ?_
  refine o_val rfl rfl rfl (y_move (v := (.int _ _)) rfl) ?_
  refine o_val rfl rfl rfl (y_move (v := (.int _ _)) rfl) ?_
  refine o_nil ?_
  refine s_block ?_
  refine s_group ?_
  refine s_loop (γ := G2 × List Inp) (fun g => [(5, .pointer (some ⟨b1, 0, none⟩)), (6, .slice g.1.B g.2.length g.1.e), (10, .int .i64 n), (11, .int .i64 g.1.i)]) (fun g => [stgrp b1 g.1.A g.1.n g.1.c, g.1.F]) (fun g => g.1.i ≤ n ∧ g.2.length = g.1.i ∧ Nums V g.1.A g.1.n ∧ g.1.n ≤ g.1.c ∧ OS g.1.B g.2.length g.1.e 24 3 (g.2.flatMap encI) g.1.F ∧ ∀ i ∈ g.2, i.ok) (fun g => n - g.1.i) ((G2.mk 0 A m c [] none 0 0 [], [])) ?_ ⟨rfl, rfl, rfl, rfl, trivial⟩ (sub_front ⟨_, rfl⟩) ?_
  · exact ⟨Nat.zero_le _, rfl, hnum, hcap, OS.nil _ _, by simp⟩
  · intro g _f hI
    obtain ⟨hi, hxl, hnum, hcap, ho, hxo⟩ := hI
    refine s_seq ?_
    refine s_region ?_
    refine o_val rfl rfl rfl (y_lss rfl rfl) ?_
    refine o_nil ?_
    refine s_seq ?_
    refine s_if rfl (fun h2 => ?_) (fun h3 => ?_)
    · refine s_skip ?_
      refine s_seq ?_
      refine s_block ?_
      refine s_region ?_
      refine o_val rfl rfl rfl (y_move (v := (.slice _ _ _)) rfl) ?_
      refine o_val rfl rfl rfl (y_move (v := (.pointer _)) rfl) ?_
      refine o_fn 1 (d := 15) rfl Try.call77 (Next_c _ g.1.A g.1.n g.1.c hnum.lift hcap 256 (by omega)) rfl ?_
      rintro _ _ ⟨k4, rfl, hl5, hu6, rfl⟩
      refine o_val rfl rfl rfl (y_move (v := (.pointer _)) rfl) ?_
      refine o_fn 1 (d := 17) rfl Try.call77 (Next_c _ (nxA g.1.A g.1.n g.1.c) (g.1.n - 1) (nxC g.1.n g.1.c) (nums_next hnum hcap).lift (cap_next hcap) 256 (by omega)) rfl ?_
      rintro _ _ ⟨k7, rfl, hl8, hu9, rfl⟩
      refine o_val rfl rfl rfl (y_sub rfl rfl (by simp only [inK]; omega)) ?_
      refine o_val rfl rfl rfl (y_move (v := (.pointer _)) rfl) ?_
      refine o_fn 1 (d := 20) rfl Try.call77 (Next_c _ (nxA (nxA g.1.A g.1.n g.1.c) (g.1.n - 1) (nxC g.1.n g.1.c)) ((g.1.n - 1) - 1) (nxC (g.1.n - 1) (nxC g.1.n g.1.c)) (nums_next (nums_next hnum hcap) (cap_next hcap)).lift (cap_next (cap_next hcap)) 256 (by omega)) rfl ?_
      rintro _ _ ⟨k10, rfl, hl11, hu12, rfl⟩
      refine o_val rfl rfl rfl (y_sub rfl rfl (by simp only [inK]; omega)) ?_
      refine o_val rfl rfl rfl (y_build (vs := [(0, .int _ _), (1, .int _ _), (2, .int _ _)]) rfl (Inputs_k1 _ _ _)) ?_
      refine o_lit (vs := [(0, .agg #[.int _ _, .int _ _, .int _ _])]) rfl rfl (Inputs_k2 _ _ _) (fun b13 => ?_)
      refine o_append (sz := 3) (bytes := 24) (news := [(.int _ _), (.int _ _), (.int _ _)]) 1 rfl Try.underlying22 Try.type24 rfl rfl rfl rfl rfl ho rfl rfl (Src.slice Try.underlying22 (cels_own 2 rfl rfl) rfl (by simp [Value.oneCell']) (by simp)) (by omega) (fun A14 c15 E16 ho17 hn18 => ?_)
      have ho19 : OS A14 (g.2 ++ [(⟨k4, k7 - 128, k10 - 128⟩ : Inp)]).length c15 24 3 ((g.2 ++ [(⟨k4, k7 - 128, k10 - 128⟩ : Inp)]).flatMap encI) E16 := by rw [← inp_map, List.length_append]; exact ho17
      clear ho17
      refine o_val rfl rfl rfl (y_assign (v := (.slice _ _ _)) rfl) ?_
      refine o_nil ?_
      refine s_region ?_
      refine o_val rfl rfl rfl (y_add rfl rfl (by simp only [inK]; omega)) ?_
      refine o_val rfl rfl rfl (y_move (v := (.int _ _)) rfl) ?_
      refine o_nil ?_
      exact ⟨(G2.mk (g.1.i + 1) (nxA (nxA (nxA g.1.A g.1.n g.1.c) (g.1.n - 1) (nxC g.1.n g.1.c)) ((g.1.n - 1) - 1) (nxC (g.1.n - 1) (nxC g.1.n g.1.c))) (((g.1.n - 1) - 1) - 1) (nxC ((g.1.n - 1) - 1) (nxC (g.1.n - 1) (nxC g.1.n g.1.c))) [] A14 0 c15 E16, g.2 ++ [(⟨k4, k7 - 128, k10 - 128⟩ : Inp)]), (by first | omega | (dsimp only; omega)), ⟨by dsimp only; omega, by simp [hxl], (nums_next (nums_next (nums_next hnum hcap) (cap_next hcap)) (cap_next (cap_next hcap))), (cap_next (cap_next (cap_next hcap))), ho19, all_app hxo (inp_ok ⟨hl5, hu6⟩ ⟨hl8, hu9⟩ ⟨hl11, hu12⟩)⟩, ⟨rfl, (congrArg (fun k => Value.slice _ k _) (by simp)), rfl, (congrArg (Value.int _) (by dsimp only; omega)), trivial⟩, sub_picks [0, 0] rfl⟩
    · refine s_exit ?_
      refine s_seq ?_
      refine s_region ?_
      refine o_val rfl rfl rfl (y_move (v := (.slice _ _ _)) rfl) ?_
      refine o_val rfl rfl rfl (y_assign (v := (.slice _ _ _)) rfl) ?_
      refine o_nil ?_
      refine s_ret ?_
      have hin : g.1.i = n := by omega
      rw [hin] at hxl
      exact ⟨_, [g.1.F], res1 rfl rfl, ⟨_, _, g.2, _, congrArg (fun k => Value.slice _ k _) hxl, hxl, hxo, (by rw [hxl] at ho; exact ho), rfl⟩, sub_picks [1] rfl⟩

theorem packedK_k0 (w : World) : (Instr.build 24 ([] : List (Nat × Value)).toArray).run Try.prog w = .ok (.agg #[.int .i64 0, .int .i64 0, .int .i64 0]) w := by kernel_rfl
theorem packedK_k1 (v0x0 : Int) (v0x1 : Int) (v0x2 : Int) (w : World) : (Instr.buildSlice 22 1 ([(0, (.agg #[(.int .i64 v0x0), (.int .i64 v0x1), (.int .i64 v0x2)]))] : List (Nat × Value)).toArray).run Try.prog w = .ok (.slice (some ⟨w.heap.size, 0, none⟩) 1 1) { w with heap := w.heap.push (.cells ([.int .i64 v0x0, .int .i64 v0x1, .int .i64 v0x2] : List Value).toArray 24 (0, 0)) } := by kernel_rfl
theorem packedK_k2 (v0 : Int) (w : World) : (Instr.build 24 ([(0, (.int .i64 v0))] : List (Nat × Value)).toArray).run Try.prog w = .ok (.agg #[.int .i64 v0, .int .i64 0, .int .i64 0]) w := by kernel_rfl
theorem packedK_c (V : Mem) : CallS Try.prog 41 ([] : List Value).toArray V [] (fun r L' => r = .bool true ∧ L' = []) := by
  refine callS Try.func41 rfl rfl (fun w0 => ?_)
  refine s_seq ?_
  refine s_region ?_
  refine o_val rfl rfl rfl (y_assign (v := (.bool _)) rfl) ?_
  refine o_nil ?_
  refine s_seq ?_
  refine s_region ?_
  refine o_val rfl rfl rfl (y_build (vs := []) rfl (packedK_k0)) ?_
  refine o_lit (vs := [(0, .agg #[.int _ _, .int _ _, .int _ _])]) rfl rfl (packedK_k1 _ _ _) (fun b1 => ?_)
  refine o_val rfl rfl rfl (y_build (vs := [(0, .int _ _)]) rfl (packedK_k2 _)) ?_
  refine o_lit (vs := [(0, .agg #[.int _ _, .int _ _, .int _ _])]) rfl rfl (packedK_k1 _ _ _) (fun b2 => ?_)
  refine o_fn 0 (d := 8) rfl Try.call20 (Pack_ok _ _ [⟨0, 0, 0⟩] (cels_own 0 rfl rfl).down (by decide) _ _ [⟨1, 0, 0⟩] (cels_own 1 rfl rfl).down (by decide) (by decide) (by decide)) rfl ?_
  rintro _ _ ⟨R, n, e, bs, G, rfl, hos, hW, rfl⟩
  refine o_val rfl rfl rfl (y_move (v := (.tuple #[(.slice _ _ _), (.int _ _)])) rfl) ?_
  refine o_val rfl rfl rfl (y_extract (v := (.slice _ _ _)) rfl rfl) ?_
  refine o_val rfl rfl rfl (y_extract (v := (.int _ _)) rfl rfl) ?_
  refine o_val rfl rfl rfl (y_assign (v := (.slice _ _ _)) rfl) ?_
  refine o_val rfl rfl rfl (y_assign (v := (.int _ _)) rfl) ?_
  refine o_nil ?_
  refine s_seq ?_
  refine s_region ?_
  refine o_val rfl rfl rfl (y_move (v := (.int _ _)) rfl) ?_
  refine o_split rfl rfl rfl (y_eql rfl rfl) (fun p3 => ?_) (fun p4 => ?_)
  · refine o_val rfl rfl rfl (y_move (v := (.bool _)) rfl) ?_
    refine o_guard_yes rfl rfl ?_
    refine o_val rfl rfl rfl (y_move (v := (.slice _ _ _)) rfl) ?_
    refine o_guard_yes rfl rfl ?_
    refine o_val rfl rfl rfl (y_len Try.runUnderlying30 rfl) ?_
    refine o_guard_yes rfl rfl ?_
    refine o_val rfl rfl rfl (y_eql rfl rfl) ?_
    refine o_val rfl rfl rfl (y_pick_t (v := (.bool _)) rfl rfl) ?_
    refine o_val rfl rfl rfl (y_assign (v := (.bool _)) rfl) ?_
    refine o_nil ?_
    refine s_ret ?_
    exact ⟨_, _, res1 rfl rfl, ⟨congrArg Value.bool (decide_eq_true (by have h1 := hW.unique packed_bits; have h2 := hos.len; rw [h1] at h2; simp at h2; omega)), rfl⟩, sub_front ⟨_, rfl⟩⟩
  · exact absurd rfl p4

theorem pack_same (l : List Inp) : ∀ k, packTo l l k = List.replicate k false
  | 0 => rfl
  | k + 1 => by rw [packTo_succ, pack_same l k, List.replicate_succ']; congr 1; unfold oneBits; rw [if_pos rfl]; rfl
theorem pack_one (l : List Inp) {n : Nat} (h : 1 ≤ n ∧ n ≤ 8) : Wr [0] (packTo l l n) := by
  rw [pack_same]
  refine ⟨by simp; omega, by simp, fun j t hj ht => ?_⟩
  have : j = 0 := by simpa using hj
  subst this
  simp [List.getD_eq_getElem?_getD, List.getElem?_replicate]
  split <;> rfl
theorem up_good {l l' : List Inp} {bs xs : List Int} {ys : List Inp} {er : Int} (h : upOK l bs ys er) (hf : okFr l.length l) (hf' : okFr l.length l') (hW : Wr bs (packTo l l' l'.length)) : er = 0 ∧ ys = l' := by
  have hl : l'.length = l.length := by have := hf'.2.2.1; omega
  have hu := unTo_enc (n := l.length) (by rw [← hl]; exact hW) hf.2.2.2 hf'.2.2.2 (Nat.le_refl _) (by omega) (Nat.le_refl _)
  rw [← hl, List.take_length, hl] at hu
  rcases up_some h hf hu with h | h
  · exact h.2
  · exact absurd (by rw [← hl]; exact hW) h.1
theorem fr_of {l : List Inp} {n : Nat} (h : l.length = n) (hn : 1 ≤ n ∧ n ≤ 8) (ho : ∀ i ∈ l, i.ok) : okFr (n : Int) l := ⟨by omega, by omega, by omega, ho⟩

theorem Pack_nn {V : Mem} (n : Nat) (A : Option Addr) (c : Nat) (l : List Inp) (h : Cels V [] A (l.flatMap encI)) (hl : l.length = n) (B : Option Addr) (d : Nat) (l' : List Inp) (h' : Cels V [] B (l'.flatMap encI)) (hl' : l'.length = n) (hf : okFr n l) (hf' : okFr n l') :
    CallS Try.prog 20 [.slice A n c, .slice B n d].toArray V [] (fun r L' => ∃ R n e bs G, r = .tuple #[.slice R n e, .int .i64 0] ∧ OS R n e 5 1 (bs.map (.int .u8)) G ∧ Wr bs (packTo l l' l'.length) ∧ L' = [G]) := by
  have h8 := hf.2.1
  subst hl
  have := Pack_ok A c l h (by omega) B d l' h' (by omega) hf hf'
  rw [hl'] at this ⊢
  exact this
theorem Unpack_n {V : Mem} (n : Nat) (A : Option Addr) (c : Nat) (l : List Inp) (h : Cels V [] A (l.flatMap encI)) (hl : l.length = n) (hb : n ≤ 140737488355328) (B : Option Addr) (m d : Nat) (bs : List Int) (h' : Cels V [] B (bs.map (.int .u8))) (hn : bs.length = m) (hbd : ∀ b ∈ bs, 0 ≤ b ∧ b ≤ 255) (hsz : m ≤ 140737488355328) :
    CallS Try.prog 40 [.slice A n c, .slice B m d].toArray V [] (fun r L' => ∃ R m e xs G er, r = .tuple #[.slice R m e, .int .i64 er] ∧ OS R m e 24 3 (xs.flatMap encI) G ∧ upOK l bs xs er ∧ L' = [G]) := by
  subst hl; exact Unpack_c A c l h hb B m d bs h' hn hbd hsz

theorem InputBack_k0 (v0 : Int) (w : World) : (Instr.buildSlice 30 1 ([(0, (.int .u8 v0))] : List (Nat × Value)).toArray).run Try.prog w = .ok (.slice (some ⟨w.heap.size, 0, none⟩) 1 1) { w with heap := w.heap.push (.cells ([.int .u8 v0] : List Value).toArray 5 (0, 0)) } := by kernel_rfl
theorem InputBack_c {V : Mem} (v : Int) (s1 : Option Addr) (m1 c1 : Nat) (hs1 : Nums V s1 m1) (hc1 : m1 ≤ c1) (s2 : Option Addr) (m2 c2 : Nat) (hs2 : Nums V s2 m2) (hc2 : m2 ≤ c2) : CallS Try.prog 8 [.int .i64 v, .slice s1 m1 c1, .slice s2 m2 c2].toArray V [] (fun r L' => r = .bool true ∧ L' = []) := by
  refine callS Try.func8 rfl rfl (fun w0 => ?_)
  refine s_seq ?_
  refine s_region ?_
  refine o_val rfl rfl rfl (y_assign (v := (.bool _)) rfl) ?_
  refine o_nil ?_
  refine s_seq ?_
  refine s_region ?_
  refine o_val rfl rfl rfl (y_move (v := (.int _ _)) rfl) ?_
  refine o_fn 0 (d := 17) rfl Try.call38 (Below_c _ _ (by decide)) rfl ?_
  rintro _ _ ⟨k, rfl, hk0, hk1, rfl⟩
  obtain ⟨n, rfl⟩ : ∃ n : Nat, k = (n : Int) - 1 := ⟨(k + 1).toNat, by omega⟩
  have hn8 : 1 ≤ n ∧ n ≤ 8 := by omega
  refine o_val rfl rfl rfl ((y_add rfl rfl (by simp only [inK]; omega)).int (show (1 : Int) + ((n : Int) - 1) = n by omega)) ?_
  have en : (1 : Int) + ((n : Int) - 1) = n := by omega
  refine o_val rfl rfl rfl (y_assign (v := (.int _ _)) rfl) ?_
  refine o_nil ?_
  refine s_seq ?_
  refine s_region ?_
  refine o_val rfl rfl rfl (y_move (v := (.int _ _)) rfl) ?_
  refine o_val rfl rfl rfl (y_move (v := (.slice _ _ _)) rfl) ?_
  refine o_fn 0 (d := 21) rfl Try.call39 (Inputs_c n (by omega) s1 m1 c1 hs1.lift hc1) rfl ?_
  rintro _ _ ⟨xaR, xae, xa, xaG, rfl, xal, xao, xaos, rfl⟩
  refine o_val rfl rfl rfl (y_move (v := (.int _ _)) rfl) ?_
  refine o_val rfl rfl rfl (y_move (v := (.slice _ _ _)) rfl) ?_
  refine o_fn 0 (d := 24) rfl Try.call39 (Inputs_c n (by omega) s2 m2 c2 hs2.lift hc2) rfl ?_
  rintro _ _ ⟨xbR, xbe, xb, xbG, rfl, xbl, xbo, xbos, rfl⟩
  refine o_val rfl rfl rfl (y_assign (v := (.slice _ _ _)) rfl) ?_
  refine o_val rfl rfl rfl (y_assign (v := (.slice _ _ _)) rfl) ?_
  have xaf := fr_of xal hn8 xao
  have xbf := fr_of xbl hn8 xbo
  refine o_nil ?_
  refine s_seq ?_
  refine s_region ?_
  refine o_val rfl rfl rfl (y_move (v := (.slice _ _ _)) rfl) ?_
  refine o_val rfl rfl rfl (y_move (v := (.slice _ _ _)) rfl) ?_
  refine o_fn 0 (d := 28) rfl Try.call20 (Pack_nn n _ _ xa (xaos.cels (j := 1) rfl).down xal _ _ xb (xbos.cels (j := 0) rfl).down xbl xaf xbf) rfl ?_
  rintro _ _ ⟨pbR, pbn, pbe, pb, pbG, rfl, pbos, pbW, rfl⟩
  refine o_val rfl rfl rfl (y_move (v := (.tuple #[(.slice _ _ _), (.int _ _)])) rfl) ?_
  refine o_val rfl rfl rfl (y_extract (v := (.slice _ _ _)) rfl rfl) ?_
  refine o_val rfl rfl rfl (y_extract (v := (.int _ _)) rfl rfl) ?_
  refine o_val rfl rfl rfl (y_assign (v := (.slice _ _ _)) rfl) ?_
  refine o_val rfl rfl rfl (y_assign (v := (.int _ _)) rfl) ?_
  refine o_nil ?_
  refine s_seq ?_
  refine s_region ?_
  refine o_val rfl rfl rfl (y_move (v := (.slice _ _ _)) rfl) ?_
  refine o_val rfl rfl rfl (y_move (v := (.slice _ _ _)) rfl) ?_
  refine o_fn 0 (d := 34) rfl Try.call40 (Unpack_n n _ _ xa (xaos.cels (j := 2) rfl).down xal (by omega) _ pbn _ pb (pbos.cels (j := 0) rfl).down (by simpa using pbos.len) pbW.2.1 (by have h1 := pbW.1; have h2 := packTo_len xa xb xb.length; have h3 := pbos.len; simp at h3; omega)) rfl ?_
  rintro _ _ ⟨uxR, uxn, uxe, ux, uxG, uxer, rfl, uxos, uxup, rfl⟩
  refine o_val rfl rfl rfl (y_move (v := (.tuple #[(.slice _ _ _), (.int _ _)])) rfl) ?_
  refine o_val rfl rfl rfl (y_extract (v := (.slice _ _ _)) rfl rfl) ?_
  refine o_val rfl rfl rfl (y_extract (v := (.int _ _)) rfl rfl) ?_
  refine o_val rfl rfl rfl (y_assign (v := (.slice _ _ _)) rfl) ?_
  refine o_val rfl rfl rfl (y_assign (v := (.int _ _)) rfl) ?_
  refine o_nil ?_
  refine s_seq ?_
  refine s_region ?_
  refine o_val rfl rfl rfl (y_move (v := (.slice _ _ _)) rfl) ?_
  refine o_val rfl rfl rfl (y_move (v := (.slice _ _ _)) rfl) ?_
  refine o_fn 0 (d := 40) rfl Try.call20 (Pack_nn n _ _ xa (xaos.cels (j := 3) rfl).down xal _ _ xa (xaos.cels (j := 3) rfl).down xal xaf xaf) rfl ?_
  rintro _ _ ⟨psR, psn, pse, ps, psG, rfl, psos, psW, rfl⟩
  have hgood := up_good (xs := []) uxup (by rw [xal]; exact xaf) (by rw [xal]; exact xbf) pbW
  have hps : ps = [0] := psW.unique (by rw [xal]; exact pack_one xa hn8)
  have hpl := packTo_len xa xb xb.length
  have hpb1 := pbW.1
  have hpb2 := pbos.len
  have hux := uxos.len
  rw [hgood.2, flat_len encI_len] at hux
  simp only [List.length_map] at hpb2
  refine o_val rfl rfl rfl (y_move (v := (.tuple #[(.slice _ _ _), (.int _ _)])) rfl) ?_
  refine o_val rfl rfl rfl (y_extract (v := (.slice _ _ _)) rfl rfl) ?_
  refine o_val rfl rfl rfl (y_extract (v := (.int _ _)) rfl rfl) ?_
  refine o_val rfl rfl rfl (y_assign (v := (.slice _ _ _)) rfl) ?_
  refine o_val rfl rfl rfl (y_assign (v := (.int _ _)) rfl) ?_
  refine o_nil ?_
  refine s_seq ?_
  refine s_region ?_
  refine o_fn 0 (d := 43) rfl Try.call41 (packedK_c _) rfl ?_
  rintro _ _ ⟨rfl, rfl⟩
  refine o_val rfl rfl rfl (y_move (v := (.bool _)) rfl) ?_
  refine o_guard_yes rfl rfl ?_
  refine o_val rfl rfl rfl (y_move (v := (.int _ _)) rfl) ?_
  refine o_guard_yes rfl rfl ?_
  refine o_split rfl rfl rfl (y_eql rfl rfl) (fun p1 => ?_) (fun p2 => ?_)
  · refine o_val rfl rfl rfl (y_pick_t (v := (.bool _)) rfl rfl) ?_
    refine o_val rfl rfl rfl (y_move (v := (.bool _)) rfl) ?_
    refine o_guard_yes rfl rfl ?_
    refine o_val rfl rfl rfl (y_move (v := (.int _ _)) rfl) ?_
    refine o_guard_yes rfl rfl ?_
    refine o_split rfl rfl rfl (y_eql rfl rfl) (fun p3 => ?_) (fun p4 => ?_)
    · refine o_val rfl rfl rfl (y_pick_t (v := (.bool _)) rfl rfl) ?_
      refine o_val rfl rfl rfl (y_move (v := (.bool _)) rfl) ?_
      refine o_guard_yes rfl rfl ?_
      refine o_val rfl rfl rfl (y_move (v := (.int _ _)) rfl) ?_
      refine o_guard_yes rfl rfl ?_
      refine o_split rfl rfl rfl (y_eql rfl rfl) (fun p5 => ?_) (fun p6 => ?_)
      · refine o_val rfl rfl rfl (y_pick_t (v := (.bool _)) rfl rfl) ?_
        refine o_val rfl rfl rfl (y_move (v := (.bool _)) rfl) ?_
        refine o_guard_yes rfl rfl ?_
        refine o_val rfl rfl rfl (y_move (v := (.slice _ _ _)) rfl) ?_
        refine o_guard_yes rfl rfl ?_
        refine o_val rfl rfl rfl (y_move (v := (.slice _ _ _)) rfl) ?_
        refine o_guard_yes rfl rfl ?_
        refine o_fn 0 (d := 59) rfl Try.call42 (EqI_c _ _ _ ux (uxos.cels (j := 1) rfl).down (by rw [hgood.2]; omega) _ _ _ xb (xbos.cels (j := 3) rfl).down xbl (by omega)) rfl ?_
        rintro _ _ ⟨rfl, rfl⟩
        refine o_split rfl rfl rfl (y_pick_t (v := (.bool _)) rfl rfl) (fun p7 => ?_) (fun p8 => ?_)
        · refine o_val rfl rfl rfl (y_move (v := (.bool _)) rfl) ?_
          refine o_guard_yes rfl rfl ?_
          refine o_val rfl rfl rfl (y_move (v := (.slice _ _ _)) rfl) ?_
          refine o_guard_yes rfl rfl ?_
          refine o_val rfl rfl rfl (y_len Try.runUnderlying30 rfl) ?_
          refine o_guard_yes rfl rfl ?_
          refine o_val rfl rfl rfl (y_move (v := (.int _ _)) rfl) ?_
          refine o_guard_yes rfl rfl ?_
          refine o_val rfl rfl rfl (y_mul rfl rfl (by simp only [inK]; omega)) ?_
          refine o_guard_yes rfl rfl ?_
          refine o_val rfl rfl rfl (y_add rfl rfl (by simp only [inK]; omega)) ?_
          refine o_guard_yes rfl rfl ?_
          refine o_val rfl rfl rfl (y_quo rfl rfl (by simp only [inK]; omega)) ?_
          refine o_guard_yes rfl rfl ?_
          refine o_split rfl rfl rfl (y_leq rfl rfl) (fun p9 => ?_) (fun p10 => ?_)
          · refine o_val rfl rfl rfl (y_pick_t (v := (.bool _)) rfl rfl) ?_
            refine o_val rfl rfl rfl (y_move (v := (.bool _)) rfl) ?_
            refine o_guard_yes rfl rfl ?_
            refine o_val rfl rfl rfl (y_move (v := (.slice _ _ _)) rfl) ?_
            refine o_guard_yes rfl rfl ?_
            refine o_lit (vs := [(0, .int _ _)]) rfl rfl (InputBack_k0 _) (fun b11 => ?_)
            refine o_guard_yes rfl rfl ?_
            refine o_fn 0 (d := 73) rfl Try.call21 (BEqual_c _ _ _ ps (psos.cels (j := 0) rfl).down (by simpa using psos.len) psW.2.1 _ _ _ [0] (cels_own 5 rfl rfl).down rfl (by decide)) rfl ?_
            rintro _ _ ⟨rfl, rfl⟩
            refine o_val rfl rfl rfl (y_pick_t (v := (.bool _)) rfl rfl) ?_
            refine o_val rfl rfl rfl (y_assign (v := (.bool _)) rfl) ?_
            refine o_nil ?_
            refine s_ret ?_
            exact ⟨_, _, res1 rfl rfl, ⟨congrArg Value.bool (decide_eq_true hps), rfl⟩, sub_front ⟨_, rfl⟩⟩
          · exact absurd (by omega) p10
        · exact absurd (hgood.2) p8
      · exact absurd (rfl) p6
    · exact absurd (hgood.1) p4
  · exact absurd (rfl) p2

theorem CloneY_k0 (w : World) : (Instr.buildSlice 30 0 ([] : List (Nat × Value)).toArray).run Try.prog w = .ok (.slice (some ⟨w.heap.size, 0, none⟩) 0 0) { w with heap := w.heap.push (.cells ([] : List Value).toArray 5 (0, 0)) } := by kernel_rfl
theorem CloneY_c {V : Mem} (A : Option Addr) (n c : Nat) (bb : List Int) (h : Cels V [] A ((bb).map (.int .u8))) (hn : bb.length = n) (hb : n * 1 ≤ 140737488355328) : CallS Try.prog 43 [.slice A n c].toArray V []
    (fun r L' => ∃ B e G, r = .slice B n e ∧ OS B n e 5 1 ((bb).map (.int .u8)) G ∧ L' = [G]) := by
  refine callS Try.func43 rfl rfl (fun w0 => ?_)
  refine s_seq ?_
  refine s_region ?_
  refine o_val rfl rfl rfl (y_assign (v := (.slice _ _ _)) rfl) ?_
  refine o_nil ?_
  refine s_seq ?_
  refine s_seq ?_
  refine s_region ?_
  refine o_val rfl rfl rfl (y_move (v := (.slice _ _ _)) rfl) ?_
  refine o_val rfl rfl rfl (y_eql_nil Try.underlying30 rfl rfl) ?_
  refine o_nil ?_
  refine s_if rfl (fun h1 => ?_) (fun h2 => ?_)
  · subst h1
    have hbb := h.none_nil
    have hb0 : bb = [] := by simpa using hbb
    subst hb0
    obtain rfl : 0 = n := hn
    refine s_seq ?_
    refine s_region ?_
    refine o_val rfl rfl rfl (y_assign (v := (.slice _ _ _)) rfl) ?_
    refine o_nil ?_
    refine s_ret ?_
    exact ⟨_, [[]], res1 rfl rfl, ⟨_, _, [], rfl, OS.nil _ _, rfl⟩, sub_none⟩
  · refine s_skip ?_
    refine s_seq ?_
    refine s_region ?_
    refine o_lit (vs := []) rfl rfl (CloneY_k0) (fun b3 => ?_)
    refine o_val rfl rfl rfl (y_move (v := (.slice _ _ _)) rfl) ?_
    refine o_append (sz := 1) (bytes := 1) (news := (bb).map (.int .u8)) 0 rfl Try.underlying30 Try.type5 rfl rfl rfl rfl rfl (OS.lit (sz := 1) (n := 0) rfl (by decide)) rfl rfl (Src.rd (sz := 0) Try.underlying30 h.here (by simp [hn]) (one_int _ _)) (by omega) (fun A4 c5 E6 ho7 hn8 => ?_)
    have ho9 : OS A4 n c5 5 1 ((bb).map (.int .u8)) E6 := by simpa using ho7
    clear ho7
    refine o_val rfl rfl rfl (y_assign (v := (.slice _ _ _)) rfl) ?_
    refine o_nil ?_
    refine s_ret ?_
    exact ⟨_, _, res1 rfl rfl, ⟨_, _, _, congrArg (fun k => Value.slice _ k _) (Nat.zero_add _), ho9, rfl⟩, sub_front ⟨_, rfl⟩⟩

theorem bit_take {bs : List Int} {k j : Nat} (h : j < 8 * k) : bitAt (bs.take k) j = bitAt bs j := by
  unfold bitAt
  rw [List.getD_eq_getElem?_getD, List.getD_eq_getElem?_getD, List.getElem?_take, if_pos (by omega)]
theorem bit_more {bs : List Int} {j : Nat} (h : j < 8 * bs.length) : bitAt bs j = bitAt (bs ++ [0]) j := by
  unfold bitAt
  rw [List.getD_eq_getElem?_getD, List.getD_eq_getElem?_getD, List.getElem?_append_left (by omega)]
theorem up_full {l l' : List Inp} {bs : List Int} (hf : okFr l.length l) (hf' : okFr l.length l') (hW : Wr bs (packTo l l' l'.length)) : unTo bs (8 * bs.length) l l.length = some (l', (packTo l l' l'.length).length) := by
  have hl : l'.length = l.length := by have := hf'.2.2.1; omega
  have hu := unTo_enc (n := l.length) (by rw [← hl]; exact hW) hf.2.2.2 hf'.2.2.2 (Nat.le_refl _) (by omega) (Nat.le_refl _)
  rw [← hl, List.take_length, hl] at hu
  rw [hl]; exact hu
theorem up_prefix {l l' : List Inp} {bs : List Int} {ys : List Inp} {er : Int} {k : Nat} (hk : k < bs.length) (h : upOK l (bs.take k) ys er) (hf : okFr l.length l) (hf' : okFr l.length l') (hW : Wr bs (packTo l l' l'.length)) : er = 14 := by
  have hu := up_full hf hf' hW
  have hlen : (bs.take k).length = k := by simp; omega
  cases hn : unTo (bs.take k) (8 * (bs.take k).length) l l.length with
  | none => exact (up_over h hf hn).1
  | some r =>
    exfalso
    have h1 := unTo_mono (cs := bs) (M := 8 * bs.length) (by omega) (fun j hj => bit_take (k := k) (by omega)) hn
    rw [hu] at h1
    have h2 := (unTo_ok hf.2.2.2 (Nat.le_refl _) (show unTo (bs.take k) (8 * (bs.take k).length) l l.length = some (l', (packTo l l' l'.length).length) by rw [hn]; exact h1.symm)).2.1
    have h3 := hW.1
    omega
theorem up_more {l l' : List Inp} {bs : List Int} {ys : List Inp} {er : Int} (h : upOK l (bs ++ [0]) ys er) (hf : okFr l.length l) (hf' : okFr l.length l') (hW : Wr bs (packTo l l' l'.length)) : er = 3 := by
  have hu := up_full hf hf' hW
  have h1 := unTo_mono (cs := bs ++ [0]) (M := 8 * (bs ++ [0]).length) (by simp; omega) (fun j hj => bit_more hj) hu
  rcases up_some h hf h1 with h2 | h2
  · have hl : l'.length = l.length := by have := hf'.2.2.1; omega
    have h3 := h2.1.1
    have h4 := hW.1
    rw [hl] at h4
    simp at h3
    omega
  · exact h2.2.1
theorem cels_take {V : Mem} {L : List Grp} {A : Option Addr} {k : IntKind} {bs : List Int} (h : Cels V L A (bs.map (.int k))) (n : Nat) : Cels V L A ((bs.take n).map (.int k)) := by
  have := h.sub 0 (ds := (bs.take n).map (.int k)) (fun i c hi => by
    rw [List.map_take, List.getElem?_take] at hi
    split at hi
    · rwa [Nat.zero_add]
    · cases hi)
  rwa [idx_zero] at this
theorem by_app {bs : List Int} (hb : ∀ b ∈ bs, 0 ≤ b ∧ b ≤ 255) : ∀ b ∈ bs ++ [0], 0 ≤ b ∧ b ≤ 255 := by
  intro b h
  rcases List.mem_append.1 h with h | h
  · exact hb b h
  · simp at h; omega
theorem by_take {bs : List Int} (hb : ∀ b ∈ bs, 0 ≤ b ∧ b ≤ 255) (n : Nat) : ∀ b ∈ bs.take n, 0 ≤ b ∧ b ≤ 255 := fun b h => hb b (List.mem_of_mem_take h)

theorem pack_pos {b n : List Inp} {k : Nat} (h : 1 ≤ k) : 1 ≤ (packTo b n k).length := by
  obtain ⟨j, rfl⟩ : ∃ j, k = j + 1 := ⟨k - 1, by omega⟩
  rw [packTo_succ, List.length_append]
  have : 1 ≤ (oneBits (b.getD j default) (n.getD j default)).length := by
    unfold oneBits; split
    · simp [bitsOf_len]
    · simp only [List.length_append, bitsOf_len]; omega
  omega

theorem InputLess_k0 (v0 : Int) (w : World) : (Instr.buildSlice 30 1 ([(0, (.int .u8 v0))] : List (Nat × Value)).toArray).run Try.prog w = .ok (.slice (some ⟨w.heap.size, 0, none⟩) 1 1) { w with heap := w.heap.push (.cells ([.int .u8 v0] : List Value).toArray 5 (0, 0)) } := by kernel_rfl
theorem InputLess_c {V : Mem} (v : Int) (s1 : Option Addr) (m1 c1 : Nat) (hs1 : Nums V s1 m1) (hc1 : m1 ≤ c1) (s2 : Option Addr) (m2 c2 : Nat) (hs2 : Nums V s2 m2) (hc2 : m2 ≤ c2) (w : Int) : CallS Try.prog 9 [.int .i64 v, .slice s1 m1 c1, .slice s2 m2 c2, .int .i64 w].toArray V [] (fun r L' => r = .bool true ∧ L' = []) := by
  refine callS Try.func9 rfl rfl (fun w0 => ?_)
  refine s_seq ?_
  refine s_region ?_
  refine o_val rfl rfl rfl (y_assign (v := (.bool _)) rfl) ?_
  refine o_nil ?_
  refine s_seq ?_
  refine s_region ?_
  refine o_val rfl rfl rfl (y_move (v := (.int _ _)) rfl) ?_
  refine o_fn 0 (d := 19) rfl Try.call38 (Below_c _ _ (by decide)) rfl ?_
  rintro _ _ ⟨k, rfl, hk0, hk1, rfl⟩
  obtain ⟨n, rfl⟩ : ∃ n : Nat, k = (n : Int) - 1 := ⟨(k + 1).toNat, by omega⟩
  have hn8 : 1 ≤ n ∧ n ≤ 8 := by omega
  refine o_val rfl rfl rfl ((y_add rfl rfl (by simp only [inK]; omega)).int (show (1 : Int) + ((n : Int) - 1) = n by omega)) ?_
  have en : (1 : Int) + ((n : Int) - 1) = n := by omega
  refine o_val rfl rfl rfl (y_assign (v := (.int _ _)) rfl) ?_
  refine o_nil ?_
  refine s_seq ?_
  refine s_region ?_
  refine o_val rfl rfl rfl (y_move (v := (.int _ _)) rfl) ?_
  refine o_val rfl rfl rfl (y_move (v := (.slice _ _ _)) rfl) ?_
  refine o_fn 0 (d := 23) rfl Try.call39 (Inputs_c n (by omega) s1 m1 c1 hs1.lift hc1) rfl ?_
  rintro _ _ ⟨xaR, xae, xa, xaG, rfl, xal, xao, xaos, rfl⟩
  refine o_val rfl rfl rfl (y_move (v := (.int _ _)) rfl) ?_
  refine o_val rfl rfl rfl (y_move (v := (.slice _ _ _)) rfl) ?_
  refine o_fn 0 (d := 26) rfl Try.call39 (Inputs_c n (by omega) s2 m2 c2 hs2.lift hc2) rfl ?_
  rintro _ _ ⟨xbR, xbe, xb, xbG, rfl, xbl, xbo, xbos, rfl⟩
  refine o_val rfl rfl rfl (y_assign (v := (.slice _ _ _)) rfl) ?_
  refine o_val rfl rfl rfl (y_assign (v := (.slice _ _ _)) rfl) ?_
  have xaf := fr_of xal hn8 xao
  have xbf := fr_of xbl hn8 xbo
  refine o_nil ?_
  refine s_seq ?_
  refine s_region ?_
  refine o_val rfl rfl rfl (y_move (v := (.slice _ _ _)) rfl) ?_
  refine o_val rfl rfl rfl (y_move (v := (.slice _ _ _)) rfl) ?_
  refine o_fn 0 (d := 30) rfl Try.call20 (Pack_nn n _ _ xa (xaos.cels (j := 1) rfl).down xal _ _ xb (xbos.cels (j := 0) rfl).down xbl xaf xbf) rfl ?_
  rintro _ _ ⟨pbR, pbn, pbe, pb, pbG, rfl, pbos, pbW, rfl⟩
  refine o_val rfl rfl rfl (y_move (v := (.tuple #[(.slice _ _ _), (.int _ _)])) rfl) ?_
  refine o_val rfl rfl rfl (y_extract (v := (.slice _ _ _)) rfl rfl) ?_
  refine o_val rfl rfl rfl (y_extract (v := (.int _ _)) rfl rfl) ?_
  refine o_val rfl rfl rfl (y_assign (v := (.slice _ _ _)) rfl) ?_
  refine o_val rfl rfl rfl (y_assign (v := (.int _ _)) rfl) ?_
  have hpl := packTo_len xa xb xb.length
  have hpb1 := pbW.1
  have hpbn : pb.length = pbn := by simpa using pbos.len
  have hpos : 1 ≤ (packTo xa xb xb.length).length := pack_pos (by omega)
  refine o_nil ?_
  refine s_seq ?_
  refine s_seq ?_
  refine s_region ?_
  refine o_fn 0 (d := 33) rfl Try.call41 (packedK_c _) rfl ?_
  rintro _ _ ⟨rfl, rfl⟩
  refine o_val rfl rfl rfl (y_notb rfl) ?_
  refine o_val rfl rfl rfl (y_move (v := (.bool _)) rfl) ?_
  refine o_guard_yes rfl rfl ?_
  refine o_val rfl rfl rfl (y_move (v := (.int _ _)) rfl) ?_
  refine o_guard_yes rfl rfl ?_
  refine o_split rfl rfl rfl (y_neq rfl rfl) (fun p1 => ?_) (fun p2 => ?_)
  · exact absurd rfl p1
  · refine o_val rfl rfl rfl (y_pick_f (v := (.bool _)) rfl rfl) ?_
    refine o_val rfl rfl rfl (y_move (v := (.bool _)) rfl) ?_
    refine o_guard_yes rfl rfl ?_
    refine o_val rfl rfl rfl (y_move (v := (.slice _ _ _)) rfl) ?_
    refine o_guard_yes rfl rfl ?_
    refine o_val rfl rfl rfl (y_len Try.runUnderlying30 rfl) ?_
    refine o_guard_yes rfl rfl ?_
    refine o_val rfl rfl rfl (y_eql rfl rfl) ?_
    refine o_val rfl rfl rfl (y_pick_f (v := (.bool _)) rfl rfl) ?_
    refine o_nil ?_
    refine s_if rfl (fun h3 => ?_) (fun h4 => ?_)
    · exfalso; omega
    · refine s_skip ?_
      refine s_seq ?_
      refine s_region ?_
      refine o_val rfl rfl rfl (y_move (v := (.slice _ _ _)) rfl) ?_
      refine o_val rfl rfl rfl (y_move (v := (.slice _ _ _)) rfl) ?_
      refine o_val rfl rfl rfl (y_move (v := (.int _ _)) rfl) ?_
      refine o_val rfl rfl rfl (y_move (v := (.slice _ _ _)) rfl) ?_
      refine o_val rfl rfl rfl (y_len Try.runUnderlying30 rfl) ?_
      refine o_fn 0 (d := 50) rfl Try.call38 (Below_c _ _ (by omega)) rfl ?_
      rintro _ _ ⟨k2, rfl, hk20, hk21, rfl⟩
      refine o_val rfl rfl rfl (y_cut_hi Try.runUnderlying30 Try.sizeOf5 rfl rfl (by have := pbos.2.1; omega)) ?_
      refine o_fn 0 (d := 52) rfl Try.call40 (Unpack_n n _ _ xa (xaos.cels (j := 2) rfl).down xal (by omega) _ k2.toNat _ (pb.take k2.toNat) (cels_take (pbos.cels (j := 0) rfl) _).down (by simp; omega) (by_take pbW.2.1 _) (by omega)) rfl ?_
      rintro _ _ ⟨u1R, u1n, u1e, u1, u1G, u1er, rfl, u1os, u1up, rfl⟩
      refine o_val rfl rfl rfl (y_move (v := (.tuple #[(.slice _ _ _), (.int _ _)])) rfl) ?_
      refine o_val rfl rfl rfl (y_extract (v := (.slice _ _ _)) rfl rfl) ?_
      refine o_val rfl rfl rfl (y_extract (v := (.int _ _)) rfl rfl) ?_
      refine o_val rfl rfl rfl (y_assign (v := (.slice _ _ _)) rfl) ?_
      refine o_val rfl rfl rfl (y_assign (v := (.int _ _)) rfl) ?_
      refine o_nil ?_
      refine s_seq ?_
      refine s_region ?_
      refine o_val rfl rfl rfl (y_move (v := (.slice _ _ _)) rfl) ?_
      refine o_val rfl rfl rfl (y_move (v := (.slice _ _ _)) rfl) ?_
      refine o_fn 0 (d := 58) rfl Try.call43 (CloneY_c _ _ _ pb (pbos.cels (j := 1) rfl).down hpbn (by omega)) rfl ?_
      rintro _ _ ⟨cR, ce, cG, rfl, cos, rfl⟩
      refine o_lit (vs := [(0, .int _ _)]) rfl rfl (InputLess_k0 _) (fun b5 => ?_)
      refine o_append (sz := 1) (bytes := 1) (news := [(.int _ _)]) 0 rfl Try.underlying30 Try.type5 rfl rfl rfl rfl rfl cos rfl rfl (Src.slice Try.underlying30 (cels_own 5 rfl rfl) rfl (by simp [Value.oneCell']) (by simp)) (by omega) (fun A6 c7 E8 ho9 hn10 => ?_)
      have ho11 : OS A6 (pbn + 1) c7 5 1 ((pb ++ [0]).map (.int .u8)) E8 := by simpa using ho9
      clear ho9
      refine o_fn 0 (d := 61) rfl Try.call40 (Unpack_n n _ _ xa (xaos.cels (j := 4) rfl).down xal (by omega) _ (pbn + 1) _ (pb ++ [0]) (ho11.cels (j := 0) rfl).down (by simp; omega) (by_app pbW.2.1) (by omega)) rfl ?_
      rintro _ _ ⟨u2R, u2n, u2e, u2, u2G, u2er, rfl, u2os, u2up, rfl⟩
      refine o_val rfl rfl rfl (y_move (v := (.tuple #[(.slice _ _ _), (.int _ _)])) rfl) ?_
      refine o_val rfl rfl rfl (y_extract (v := (.slice _ _ _)) rfl rfl) ?_
      refine o_val rfl rfl rfl (y_extract (v := (.int _ _)) rfl rfl) ?_
      refine o_val rfl rfl rfl (y_assign (v := (.slice _ _ _)) rfl) ?_
      refine o_val rfl rfl rfl (y_assign (v := (.int _ _)) rfl) ?_
      refine o_nil ?_
      refine s_seq ?_
      refine s_region ?_
      have h14 := up_prefix (by omega) u1up (by rw [xal]; exact xaf) (by rw [xal]; exact xbf) pbW
      have h3 := up_more u2up (by rw [xal]; exact xaf) (by rw [xal]; exact xbf) pbW
      refine o_val rfl rfl rfl (y_move (v := (.int _ _)) rfl) ?_
      refine o_split rfl rfl rfl (y_eql rfl rfl) (fun p12 => ?_) (fun p13 => ?_)
      · refine o_val rfl rfl rfl (y_move (v := (.bool _)) rfl) ?_
        refine o_guard_yes rfl rfl ?_
        refine o_val rfl rfl rfl (y_move (v := (.int _ _)) rfl) ?_
        refine o_guard_yes rfl rfl ?_
        refine o_val rfl rfl rfl (y_eql rfl rfl) ?_
        refine o_val rfl rfl rfl (y_pick_t (v := (.bool _)) rfl rfl) ?_
        refine o_val rfl rfl rfl (y_assign (v := (.bool _)) rfl) ?_
        refine o_nil ?_
        refine s_ret ?_
        exact ⟨_, _, res1 rfl rfl, ⟨congrArg Value.bool (decide_eq_true h3), rfl⟩, sub_front ⟨_, rfl⟩⟩
      · exact absurd (h14) p13

end Go.Proofs.Ytppciokaldmipaa.K
