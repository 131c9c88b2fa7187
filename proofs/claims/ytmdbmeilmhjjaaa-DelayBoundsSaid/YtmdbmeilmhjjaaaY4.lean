/- Walks over the package delay. No condition beyond what each statement names. -/
import Derived.Test.YtmdbmeilmhjjaaaProg
import Derived.Test.YtmdbmeilmhjjaaaK12
import Derived.Test.YtmdbmeilmhjjaaaB9
import Derived.Test.YtmdbmeilmhjjaaaY1
import Derived.Test.YtmdbmeilmhjjaaaY2
import Derived.Test.YtmdbmeilmhjjaaaY3
set_option linter.unusedVariables false
set_option linter.unusedSimpArgs false
set_option maxRecDepth 100000
namespace Go.Proofs.Ytmdbmeilmhjjaaa.K
open Go.RowKit

/-- A delay's own block. -/
def dgrp (b : Nat) (low high now : Int) (A : Option Addr) (n c : Nat) (calm : Int) : Grp := [(b, .cells [.int .i64 low, .int .i64 high, .int .i64 now, .slice A n c, .int .i64 calm].toArray 36 (0, 0))]
def clampL (n : Int) : Int := min (max n (-20)) 20
def tail9 (xs : List Int) : List Int := if 9 < xs.length then xs.drop 1 else xs
/-- What a note does: the delay, what is remembered, the calm. -/
def noteS (low high now : Int) (xs : List Int) (calm late : Int) : Int × List Int × Int :=
  if 0 < late then (min (now + min late 20) high, [], 0)
  else if calm + 1 < 8 ∨ 0 ≤ med (tail9 (xs ++ [clampL late])) then (now, tail9 (xs ++ [clampL late]), calm + 1)
  else (max (now - 1) low, [], 0)
theorem sub_addnil {L : List Grp} : Sub (L ++ [[]]) L := fun _ _ _ h => h.perm (by simp)
theorem sub_drop1 {D E : Grp} : Sub [D, []] [D, E] := fun _ _ _ h => h.sublist (by simp)
theorem os_drop1 {A : Option Addr} {n c : Nat} {T : TypeId} {ys : List Int} {E : Grp} (h : OS A n c T 1 (ys.map (.int .i64)) E) (hn : 1 ≤ n) : OS (cutA A c 1 1) (n - 1) (c - 1) T 1 ((ys.drop 1).map (.int .i64)) E := by
  have h1 := h.cut hn (Nat.le_refl n)
  have hl : ys.length = n := by simpa using h.len
  refine os_eq h1 ?_
  rw [Nat.one_mul, Nat.mul_one, ← List.map_drop, List.take_of_length_le (by simp; omega)]

theorem median_c {V : Mem} (b : Nat) (low high now : Int) (A : Option Addr) (n c : Nat) (calm : Int) (xs : List Int) (h : Cels V [] A (xs.map (.int .i64))) (hn : xs.length = n) (h0 : 0 < n) (hb : n ≤ 12) : CallS Try.prog 11 [.pointer (some ⟨b, 0, none⟩)].toArray V [dgrp b low high now A n c calm] (fun r L' => r = .int .i64 (med xs) ∧ L' = [dgrp b low high now A n c calm]) := by
  have hsl := srt_len xs
  refine callS Try.func11 rfl rfl (fun w0 => ?_)
  refine s_seq ?_
  refine s_region ?_
  refine o_val rfl rfl rfl (y_assign (v := (.int _ _)) rfl) ?_
  refine o_nil ?_
  refine s_seq ?_
  refine s_region ?_
  refine o_val rfl rfl rfl (y_move (v := (.pointer _)) rfl) ?_
  refine o_val rfl rfl rfl (y_nilCheck rfl) ?_
  refine o_val rfl rfl rfl (y_field0 Try.runUnderlying36 rfl Try.sizeOf22 rfl rfl) ?_
  refine o_val rfl rfl rfl (y_load Try.isAgg22 rfl (cel_own 0 rfl rfl)) ?_
  refine o_fn 0 (d := 8) rfl Try.call9 (Values_c _ _ _) rfl ?_
  rintro _ _ ⟨vb, rfl, rfl⟩
  refine o_fn 1 (d := 9) rfl Try.call8 (Sorted_c A n c xs h.here.down hn h0 hb vb) rfl ?_
  rintro _ _ ⟨B, e, E, rfl, ho, rfl⟩
  refine o_val rfl rfl rfl (y_assign (v := (.slice _ _ _)) rfl) ?_
  refine o_nil ?_
  refine s_seq ?_
  refine s_seq ?_
  refine s_region ?_
  refine o_val rfl rfl rfl (y_move (v := (.slice _ _ _)) rfl) ?_
  refine o_val rfl rfl rfl (y_len Try.runUnderlying22 rfl) ?_
  refine o_val rfl rfl rfl (y_eql rfl rfl) ?_
  refine o_nil ?_
  refine s_if rfl (fun h1 => ?_) (fun h2 => ?_)
  · exfalso; omega
  · refine s_skip ?_
    refine s_seq ?_
    refine s_region ?_
    refine o_val rfl rfl rfl (y_move (v := (.slice _ _ _)) rfl) ?_
    refine o_val rfl rfl rfl (y_move (v := (.slice _ _ _)) rfl) ?_
    refine o_val rfl rfl rfl (y_len Try.runUnderlying22 rfl) ?_
    refine o_val rfl rfl rfl (y_sub rfl rfl (by simp only [inK]; omega)) ?_
    refine o_val rfl rfl rfl (y_quo rfl rfl (⟨by omega, by decide, by simp only [inK]; omega⟩)) ?_
    refine o_val rfl rfl rfl (y_index1 Try.runUnderlying22 Try.sizeOf3 (ho.some_of (by omega)) rfl rfl (by omega)) ?_
    refine o_val rfl rfl rfl (y_load Try.isAgg3 rfl (cel_int (ho.cels (j := 0) rfl) (by omega))) ?_
    refine o_val rfl rfl rfl (y_assign (v := (.int _ _)) rfl) ?_
    refine o_nil ?_
    refine s_forget [(2, (.int _ _))] ⟨rfl, trivial⟩ (fun _f => ?_)
    refine s_ret ?_
    exact ⟨_, [_], res1 rfl rfl, ⟨congrArg (Value.int .i64) (by unfold med; rw [hn, show (((n : Int) - 1) / 2).toNat = (n - 1) / 2 by omega]), rfl⟩, sub_picks [1] rfl⟩

theorem NewD_k0 (v0 : Int) (v1 : Int) (v2 : Int) (w : World) : (Instr.build 36 ([(0, (.int .i64 v0)), (1, (.int .i64 v1)), (2, (.int .i64 v2))] : List (Nat × Value)).toArray).run Try.prog w = .ok (.agg #[.int .i64 v0, .int .i64 v1, .int .i64 v2, .slice none 0 0, .int .i64 0]) w := by kernel_rfl
theorem NewD_c {V : Mem} (low high : Int) : CallS Try.prog 5 [.int .i64 low, .int .i64 high].toArray V [] (fun r L' => (¬ (0 ≤ low ∧ low ≤ high ∧ high ≤ 20) ∧ r = .tuple #[.pointer none, .int .i64 1] ∧ L' = []) ∨ ((0 ≤ low ∧ low ≤ high ∧ high ≤ 20) ∧ ∃ b, r = .tuple #[.pointer (some ⟨b, 0, none⟩), .int .i64 0] ∧ L' = [dgrp b low high low none 0 0 0, []])) := by
  refine callS Try.func5 rfl rfl (fun w0 => ?_)
  refine s_seq ?_
  refine s_region ?_
  refine o_val rfl rfl rfl (y_assign (v := (.pointer _)) rfl) ?_
  refine o_val rfl rfl rfl (y_assign (v := (.int _ _)) rfl) ?_
  refine o_nil ?_
  refine s_seq ?_
  refine s_seq ?_
  refine s_region ?_
  refine o_val rfl rfl rfl (y_move (v := (.int _ _)) rfl) ?_
  refine o_split rfl rfl rfl (y_lss rfl rfl) (fun p1 => ?_) (fun p2 => ?_)
  · refine o_val rfl rfl rfl (y_move (v := (.bool _)) rfl) ?_
    refine o_guard_no rfl rfl rfl rfl rfl ?_
    refine o_guard_no rfl rfl rfl rfl rfl ?_
    refine o_val rfl rfl rfl (y_pick_t (v := (.bool _)) rfl rfl) ?_
    refine o_val rfl rfl rfl (y_move (v := (.bool _)) rfl) ?_
    refine o_guard_no rfl rfl rfl rfl rfl ?_
    refine o_guard_no rfl rfl rfl rfl rfl ?_
    refine o_guard_no rfl rfl rfl rfl rfl ?_
    refine o_val rfl rfl rfl (y_pick_t (v := (.bool _)) rfl rfl) ?_
    refine o_nil ?_
    refine s_forget [(0, (.int _ _)), (1, (.int _ _)), (4, (.pointer _)), (5, (.int _ _)), (16, (.bool _))] ⟨rfl, rfl, rfl, rfl, rfl, trivial⟩ (fun _f => ?_)
    refine s_then rfl ?_
    refine s_seq ?_
    refine s_region ?_
    refine o_val rfl rfl rfl (y_assign (v := (.pointer _)) rfl) ?_
    refine o_val rfl rfl rfl (y_assign (v := (.int _ _)) rfl) ?_
    refine o_nil ?_
    refine s_ret ?_
    exact ⟨_, _, res2 rfl rfl rfl, .inl ⟨by omega, rfl, rfl⟩, sub_front ⟨_, rfl⟩⟩
  · refine o_val rfl rfl rfl (y_move (v := (.bool _)) rfl) ?_
    refine o_guard_yes rfl rfl ?_
    refine o_val rfl rfl rfl (y_move (v := (.int _ _)) rfl) ?_
    refine o_guard_yes rfl rfl ?_
    refine o_split rfl rfl rfl (y_gtr rfl rfl) (fun p3 => ?_) (fun p4 => ?_)
    · refine o_val rfl rfl rfl (y_pick_f (v := (.bool _)) rfl rfl) ?_
      refine o_val rfl rfl rfl (y_move (v := (.bool _)) rfl) ?_
      refine o_guard_no rfl rfl rfl rfl rfl ?_
      refine o_guard_no rfl rfl rfl rfl rfl ?_
      refine o_guard_no rfl rfl rfl rfl rfl ?_
      refine o_val rfl rfl rfl (y_pick_t (v := (.bool _)) rfl rfl) ?_
      refine o_nil ?_
      refine s_forget [(0, (.int _ _)), (1, (.int _ _)), (4, (.pointer _)), (5, (.int _ _)), (16, (.bool _))] ⟨rfl, rfl, rfl, rfl, rfl, trivial⟩ (fun _f => ?_)
      refine s_then rfl ?_
      refine s_seq ?_
      refine s_region ?_
      refine o_val rfl rfl rfl (y_assign (v := (.pointer _)) rfl) ?_
      refine o_val rfl rfl rfl (y_assign (v := (.int _ _)) rfl) ?_
      refine o_nil ?_
      refine s_ret ?_
      exact ⟨_, _, res2 rfl rfl rfl, .inl ⟨by omega, rfl, rfl⟩, sub_front ⟨_, rfl⟩⟩
    · refine o_val rfl rfl rfl (y_pick_f (v := (.bool _)) rfl rfl) ?_
      refine o_val rfl rfl rfl (y_move (v := (.bool _)) rfl) ?_
      refine o_guard_yes rfl rfl ?_
      refine o_val rfl rfl rfl (y_move (v := (.int _ _)) rfl) ?_
      refine o_guard_yes rfl rfl ?_
      refine o_val rfl rfl rfl (y_move (v := (.int _ _)) rfl) ?_
      refine o_guard_yes rfl rfl ?_
      refine o_val rfl rfl rfl (y_gtr rfl rfl) ?_
      refine o_val rfl rfl rfl (y_pick_f (v := (.bool _)) rfl rfl) ?_
      refine o_nil ?_
      refine s_forget [(0, (.int _ _)), (1, (.int _ _)), (4, (.pointer _)), (5, (.int _ _)), (16, (.bool _))] ⟨rfl, rfl, rfl, rfl, rfl, trivial⟩ (fun _f => ?_)
      refine s_if rfl (fun h5 => ?_) (fun h6 => ?_)
      · refine s_seq ?_
        refine s_region ?_
        refine o_val rfl rfl rfl (y_assign (v := (.pointer _)) rfl) ?_
        refine o_val rfl rfl rfl (y_assign (v := (.int _ _)) rfl) ?_
        refine o_nil ?_
        refine s_ret ?_
        exact ⟨_, _, res2 rfl rfl rfl, .inl ⟨by omega, rfl, rfl⟩, sub_front ⟨_, rfl⟩⟩
      · refine s_skip ?_
        refine s_seq ?_
        refine s_region ?_
        refine o_val rfl rfl rfl (y_move (v := (.int _ _)) rfl) ?_
        refine o_val rfl rfl rfl (y_move (v := (.int _ _)) rfl) ?_
        refine o_val rfl rfl rfl (y_move (v := (.int _ _)) rfl) ?_
        refine o_val rfl rfl rfl (y_build (vs := [(0, .int _ _), (1, .int _ _), (2, .int _ _)]) rfl (NewD_k0 _ _ _)) ?_
        refine o_box (v := (.agg #[(.int _ _), (.int _ _), (.int _ _), (.slice _ _ _), (.int _ _)])) rfl rfl rfl (fun b7 => ?_)
        refine o_val rfl rfl rfl (y_assign (v := (.pointer _)) rfl) ?_
        refine o_val rfl rfl rfl (y_assign (v := (.int _ _)) rfl) ?_
        refine o_nil ?_
        refine s_ret ?_
        exact ⟨_, _, res2 rfl rfl rfl, .inr ⟨⟨by omega, by omega, by omega⟩, _, rfl, rfl⟩, sub_addnil⟩

theorem ValueD_c {V : Mem} (b : Nat) (low high now : Int) (A : Option Addr) (n c : Nat) (calm : Int) : CallS Try.prog 7 [.pointer (some ⟨b, 0, none⟩)].toArray V [dgrp b low high now A n c calm] (fun r L' => r = .int .i64 now ∧ L' = [dgrp b low high now A n c calm]) := by
  refine callS Try.func7 rfl rfl (fun w0 => ?_)
  refine s_seq ?_
  refine s_region ?_
  refine o_val rfl rfl rfl (y_assign (v := (.int _ _)) rfl) ?_
  refine o_nil ?_
  refine s_seq ?_
  refine s_region ?_
  refine o_val rfl rfl rfl (y_move (v := (.pointer _)) rfl) ?_
  refine o_val rfl rfl rfl (y_nilCheck rfl) ?_
  refine o_val rfl rfl rfl (y_field0 Try.runUnderlying36 rfl Try.sizeOf3 rfl rfl) ?_
  refine o_val rfl rfl rfl (y_load Try.isAgg3 rfl (cel_own 0 rfl rfl)) ?_
  refine o_val rfl rfl rfl (y_assign (v := (.int _ _)) rfl) ?_
  refine o_nil ?_
  refine s_ret ?_
  exact ⟨_, _, res1 rfl rfl, ⟨rfl, rfl⟩, sub_front ⟨_, rfl⟩⟩

theorem NoteD_k0 (v0 : Int) (w : World) : (Instr.buildSlice 22 1 ([(0, (.int .i64 v0))] : List (Nat × Value)).toArray).run Try.prog w = .ok (.slice (some ⟨w.heap.size, 0, none⟩) 1 1) { w with heap := w.heap.push (.cells ([.int .i64 v0] : List Value).toArray 3 (0, 0)) } := by kernel_rfl
theorem NoteD_c {V : Mem} (b : Nat) (low high now : Int) (A : Option Addr) (n c : Nat) (calm : Int) (xs : List Int) (E : Grp) (hos : OS A n c 3 1 (xs.map (.int .i64)) E) (hn9 : n ≤ 9) (hlo : 0 ≤ low ∧ low ≤ 20) (hhi : 0 ≤ high ∧ high ≤ 20) (hnow : 0 ≤ now ∧ now ≤ 20) (hcalm : 0 ≤ calm ∧ calm < 4611686018427387904) (late : Int) (hin : inK .i64 late) : CallS Try.prog 6 [.pointer (some ⟨b, 0, none⟩), .int .i64 late].toArray V [dgrp b low high now A n c calm, E] (fun r L' => r = .tuple #[] ∧ ∃ A' n' c' E', OS A' n' c' 3 1 ((noteS low high now xs calm late).2.1.map (.int .i64)) E' ∧ n' ≤ 9 ∧ L' = [dgrp b low high (noteS low high now xs calm late).1 A' n' c' (noteS low high now xs calm late).2.2, E']) := by
  have hxl : xs.length = n := by simpa using hos.len
  simp only [inK] at hin
  refine callS Try.func6 rfl rfl (fun w0 => ?_)
  refine s_seq ?_
  refine s_region ?_
  refine o_val rfl rfl rfl (y_move (v := (.pointer _)) rfl) ?_
  refine o_val rfl rfl rfl (y_move (v := (.pointer _)) rfl) ?_
  refine o_val rfl rfl rfl (y_nilCheck rfl) ?_
  refine o_val rfl rfl rfl (y_field0 Try.runUnderlying36 rfl Try.sizeOf22 rfl rfl) ?_
  refine o_val rfl rfl rfl (y_load Try.isAgg22 rfl (cel_own 0 rfl rfl)) ?_
  refine o_val rfl rfl rfl (y_move (v := (.int _ _)) rfl) ?_
  refine o_val rfl rfl rfl (y_max rfl rfl) ?_
  refine o_val rfl rfl rfl (y_min rfl rfl) ?_
  refine o_lit (vs := [(0, .int _ _)]) rfl rfl (NoteD_k0 _) (fun b1 => ?_)
  refine o_append (sz := 1) (bytes := 8) (news := [(.int _ _)]) 1 rfl Try.underlying22 Try.type3 rfl rfl rfl rfl rfl hos rfl rfl (Src.slice Try.underlying22 (cels_own 2 rfl rfl) rfl (by simp [Value.oneCell']) (by simp)) (by omega) (fun A2 c3 E4 ho5 hn6 => ?_)
  have ho7 : OS A2 (n + 1) c3 3 1 ((xs ++ [clampL late]).map (.int .i64)) E4 := os_app_int (cs := [clampL late]) ho5
  clear ho5
  refine o_val rfl rfl rfl (y_nilCheck rfl) ?_
  refine o_val rfl rfl rfl (y_field0 Try.runUnderlying36 rfl Try.sizeOf22 rfl rfl) ?_
  refine o_store (v := (.slice _ _ _)) 0 rfl Try.sizeOf22 rfl rfl rfl rfl ?_
  refine o_nil ?_
  refine s_norm [[(_, .cells [(.int _ _), (.int _ _), (.int _ _), (.slice _ _ _), (.int _ _)].toArray 36 (0, 0))], _, [(_, .cells [(.int _ _)].toArray 3 (0, 0))]] rfl ?_
  refine s_forget [(0, (.pointer _)), (1, (.int _ _))] ⟨rfl, rfl, trivial⟩ (fun _f => ?_)
  refine s_join (γ := G1) (fun q => [(0, .pointer (some ⟨b, 0, none⟩)), (1, .int .i64 late)]) (fun q => [dgrp b low high now q.A q.n q.c calm, q.E]) (fun q => OS q.A q.n q.c 3 1 ((tail9 (xs ++ [clampL late])).map (.int .i64)) q.E ∧ q.n ≤ 9 ∧ 0 < q.n) ?_ ?_
  · refine s_seq ?_
    refine s_region ?_
    refine o_val rfl rfl rfl (y_move (v := (.pointer _)) rfl) ?_
    refine o_val rfl rfl rfl (y_nilCheck rfl) ?_
    refine o_val rfl rfl rfl (y_field0 Try.runUnderlying36 rfl Try.sizeOf22 rfl rfl) ?_
    refine o_val rfl rfl rfl (y_load Try.isAgg22 rfl (cel_own 0 rfl rfl)) ?_
    refine o_val rfl rfl rfl (y_len Try.runUnderlying22 rfl) ?_
    refine o_val rfl rfl rfl (y_gtr rfl rfl) ?_
    refine o_nil ?_
    refine s_if rfl (fun h8 => ?_) (fun h9 => ?_)
    · refine s_region ?_
      refine o_val rfl rfl rfl (y_move (v := (.pointer _)) rfl) ?_
      refine o_val rfl rfl rfl (y_move (v := (.pointer _)) rfl) ?_
      refine o_val rfl rfl rfl (y_nilCheck rfl) ?_
      refine o_val rfl rfl rfl (y_field0 Try.runUnderlying36 rfl Try.sizeOf22 rfl rfl) ?_
      refine o_val rfl rfl rfl (y_load Try.isAgg22 rfl (cel_own 0 rfl rfl)) ?_
      refine o_val rfl rfl rfl (y_cut_lo Try.runUnderlying22 Try.sizeOf3 rfl rfl (by omega)) ?_
      have ho2 := os_drop1 ho7 (by omega)
      refine o_val rfl rfl rfl (y_nilCheck rfl) ?_
      refine o_val rfl rfl rfl (y_field0 Try.runUnderlying36 rfl Try.sizeOf22 rfl rfl) ?_
      refine o_store (v := (.slice _ _ _)) 0 rfl Try.sizeOf22 rfl rfl rfl rfl ?_
      refine o_nil ?_
      exact ⟨(G1.mk 0 (cutA A2 c3 1 1) (n + 1 - 1) (c3 - 1) E4), ⟨(by unfold tail9; rw [if_pos (by simp; omega)]; exact ho2), by dsimp only; omega, by dsimp only; omega⟩, ⟨rfl, rfl, trivial⟩, sub_front ⟨_, rfl⟩⟩
    · refine s_skip ?_
      exact ⟨(G1.mk 0 A2 (n + 1) c3 E4), ⟨(by unfold tail9; rw [if_neg (by simp; omega)]; exact ho7), by dsimp only; omega, by dsimp only; omega⟩, ⟨rfl, rfl, trivial⟩, sub_front ⟨_, rfl⟩⟩
  · intro q _f hI
    obtain ⟨hoq, hq9, hq0⟩ := hI
    refine s_seq ?_
    refine s_seq ?_
    refine s_region ?_
    refine o_val rfl rfl rfl (y_move (v := (.int _ _)) rfl) ?_
    refine o_val rfl rfl rfl (y_gtr rfl rfl) ?_
    refine o_nil ?_
    refine s_if rfl (fun h10 => ?_) (fun h11 => ?_)
    · have hl := h10
      refine s_seq ?_
      refine s_drawn 1 (by kernel_rfl) ?_
      refine d_val (i := 0) rfl (by kernel_rfl) (by kernel_rfl) (by kernel_rfl) rfl rfl rfl (y_move (v := (.pointer _)) rfl) ?_
      refine d_val (i := 1) rfl (by kernel_rfl) (by kernel_rfl) (by kernel_rfl) rfl rfl rfl (y_move (v := (.pointer _)) rfl) ?_
      refine d_val (i := 2) rfl (by kernel_rfl) (by kernel_rfl) (by kernel_rfl) rfl rfl rfl (y_move (v := (.pointer _)) rfl) ?_
      refine d_val (i := 3) rfl (by kernel_rfl) (by kernel_rfl) (by kernel_rfl) rfl rfl rfl (y_move (v := (.pointer _)) rfl) ?_
      refine d_val (i := 4) rfl (by kernel_rfl) (by kernel_rfl) (by kernel_rfl) rfl rfl rfl (y_nilCheck rfl) ?_
      refine d_val (i := 5) rfl (by kernel_rfl) (by kernel_rfl) (by kernel_rfl) rfl rfl rfl (y_field0 Try.runUnderlying36 rfl Try.sizeOf3 rfl rfl) ?_
      refine d_val (i := 7) rfl (by kernel_rfl) (by kernel_rfl) (by kernel_rfl) rfl rfl rfl (y_move (v := (.int _ _)) rfl) ?_
      refine d_val (i := 8) rfl (by kernel_rfl) (by kernel_rfl) (by kernel_rfl) rfl rfl rfl (y_min rfl rfl) ?_
      refine d_val (i := 10) rfl (by kernel_rfl) (by kernel_rfl) (by kernel_rfl) rfl rfl rfl (y_move (v := (.pointer _)) rfl) ?_
      refine d_val (i := 11) rfl (by kernel_rfl) (by kernel_rfl) (by kernel_rfl) rfl rfl rfl (y_nilCheck rfl) ?_
      refine d_val (i := 12) rfl (by kernel_rfl) (by kernel_rfl) (by kernel_rfl) rfl rfl rfl (y_field0 Try.runUnderlying36 rfl Try.sizeOf3 rfl rfl) ?_
      refine d_now (i := 6) [(13, _, _)] rfl (by kernel_rfl) (by kernel_rfl) (by kernel_rfl) rfl rfl rfl (y_load Try.isAgg3 rfl (cel_own 0 rfl rfl)) ⟨⟨rfl, rfl, (y_load Try.isAgg3 rfl (cel_own 0 rfl rfl))⟩, trivial⟩ ?_
      refine d_val (i := 9) rfl (by kernel_rfl) (by kernel_rfl) (by kernel_rfl) rfl rfl rfl (y_add rfl rfl (by simp only [inK]; omega)) ?_
      refine d_now (i := 13) [] rfl (by kernel_rfl) (by kernel_rfl) (by kernel_rfl) rfl rfl rfl (y_load Try.isAgg3 rfl (cel_own 0 rfl rfl)) trivial ?_
      refine d_val (i := 14) rfl (by kernel_rfl) (by kernel_rfl) (by kernel_rfl) rfl rfl rfl (y_min rfl rfl) ?_
      refine d_val (i := 15) rfl (by kernel_rfl) (by kernel_rfl) (by kernel_rfl) rfl rfl rfl (y_nilCheck rfl) ?_
      refine d_val (i := 16) rfl (by kernel_rfl) (by kernel_rfl) (by kernel_rfl) rfl rfl rfl (y_field0 Try.runUnderlying36 rfl Try.sizeOf3 rfl rfl) ?_
      refine d_eff (k := 17) (n := 1) (m := 1) rfl (by kernel_rfl) rfl ?_
      refine o_store (v := (.int _ _)) 0 rfl Try.sizeOf3 rfl rfl rfl rfl ?_
      refine o_nil ?_
      refine d_val (i := 18) rfl (by kernel_rfl) (by kernel_rfl) (by kernel_rfl) rfl rfl rfl (y_nilCheck rfl) ?_
      refine d_val (i := 19) rfl (by kernel_rfl) (by kernel_rfl) (by kernel_rfl) rfl rfl rfl (y_field0 Try.runUnderlying36 rfl Try.sizeOf3 rfl rfl) ?_
      refine d_eff (k := 20) (n := 1) (m := 1) rfl (by kernel_rfl) rfl ?_
      refine o_store (v := (.int _ _)) 0 rfl Try.sizeOf3 rfl rfl rfl rfl ?_
      refine o_nil ?_
      refine d_val (i := 21) rfl (by kernel_rfl) (by kernel_rfl) (by kernel_rfl) rfl rfl rfl (y_nilCheck rfl) ?_
      refine d_val (i := 22) rfl (by kernel_rfl) (by kernel_rfl) (by kernel_rfl) rfl rfl rfl (y_field0 Try.runUnderlying36 rfl Try.sizeOf22 rfl rfl) ?_
      refine d_eff (k := 23) (n := 1) (m := 1) rfl (by kernel_rfl) rfl ?_
      refine o_store (v := (.slice _ _ _)) 0 rfl Try.sizeOf22 rfl rfl rfl rfl ?_
      refine o_nil ?_
      refine d_nil (n := 1) (m := 1) (by kernel_rfl) rfl ?_
      refine s_norm [[(_, .cells [(.int _ _), (.int _ _), (.int _ _), (.slice _ _ _), (.int _ _)].toArray 36 (0, 0))], _] rfl ?_
      refine s_forget [(0, (.pointer _))] ⟨rfl, trivial⟩ (fun _f => ?_)
      refine s_ret ?_
      have e : (noteS low high now xs calm late) = (min (now + min late 20) high, [], 0) := by unfold noteS; rw [if_pos hl]
      rw [e]
      exact ⟨_, _, res0 rfl, ⟨rfl, none, 0, 0, [], OS.nil _ _, Nat.zero_le _, rfl⟩, sub_drop1⟩
    · have hl := h11
      refine s_skip ?_
      refine s_seq ?_
      refine s_seq ?_
      refine s_region ?_
      refine o_val rfl rfl rfl (y_move (v := (.pointer _)) rfl) ?_
      refine o_val rfl rfl rfl (y_nilCheck rfl) ?_
      refine o_val rfl rfl rfl (y_field0 Try.runUnderlying36 rfl Try.sizeOf3 rfl rfl) ?_
      refine o_val rfl rfl rfl (y_load Try.isAgg3 rfl (cel_own 0 rfl rfl)) ?_
      refine o_val rfl rfl rfl (y_add rfl rfl (by simp only [inK]; omega)) ?_
      refine o_val rfl rfl rfl (y_nilCheck rfl) ?_
      refine o_val rfl rfl rfl (y_field0 Try.runUnderlying36 rfl Try.sizeOf3 rfl rfl) ?_
      refine o_store (v := (.int _ _)) 0 rfl Try.sizeOf3 rfl rfl rfl rfl ?_
      refine o_nil ?_
      refine s_seq ?_
      refine s_region ?_
      refine o_val rfl rfl rfl (y_move (v := (.pointer _)) rfl) ?_
      refine o_val rfl rfl rfl (y_nilCheck rfl) ?_
      refine o_val rfl rfl rfl (y_field0 Try.runUnderlying36 rfl Try.sizeOf3 rfl rfl) ?_
      refine o_val rfl rfl rfl (y_load Try.isAgg3 rfl (cel_own 0 rfl rfl)) ?_
      refine o_split rfl rfl rfl (y_lss rfl rfl) (fun p12 => ?_) (fun p13 => ?_)
      · refine o_val rfl rfl rfl (y_move (v := (.bool _)) rfl) ?_
        refine o_guard_no rfl rfl rfl rfl rfl ?_
        refine o_guard_no rfl rfl rfl rfl rfl ?_
        refine o_guard_no rfl rfl rfl rfl rfl ?_
        refine o_val rfl rfl rfl (y_pick_t (v := (.bool _)) rfl rfl) ?_
        refine o_nil ?_
        refine s_forget [(0, (.pointer _)), (69, (.bool _))] ⟨rfl, rfl, trivial⟩ (fun _f => ?_)
        refine s_then rfl ?_
        refine s_ret ?_
        have e : (noteS low high now xs calm late) = (now, (tail9 (xs ++ [clampL late])), calm + 1) := by unfold noteS; rw [if_neg hl, if_pos (by omega)]
        rw [e]
        exact ⟨_, _, res0 rfl, ⟨rfl, _, _, _, _, hoq, by omega, rfl⟩, sub_front ⟨_, rfl⟩⟩
      · refine o_val rfl rfl rfl (y_move (v := (.bool _)) rfl) ?_
        refine o_guard_yes rfl rfl ?_
        refine o_val rfl rfl rfl (y_move (v := (.pointer _)) rfl) ?_
        refine o_guard_yes rfl rfl ?_
        refine o_fn 1 (d := 67) rfl Try.call11 (median_c b low high now q.A q.n q.c (calm + 1) (tail9 (xs ++ [clampL late])) (hoq.cels (j := 0) rfl).down (by simpa using hoq.len) hq0 (by omega)) rfl ?_
        rintro _ _ ⟨rfl, rfl⟩
        refine o_guard_yes rfl rfl ?_
        refine o_val rfl rfl rfl (y_geq rfl rfl) ?_
        refine o_val rfl rfl rfl (y_pick_f (v := (.bool _)) rfl rfl) ?_
        refine o_nil ?_
        refine s_forget [(0, (.pointer _)), (69, (.bool _))] ⟨rfl, rfl, trivial⟩ (fun _f => ?_)
        refine s_if rfl (fun h14 => ?_) (fun h15 => ?_)
        · refine s_ret ?_
          have e : (noteS low high now xs calm late) = (now, (tail9 (xs ++ [clampL late])), calm + 1) := by unfold noteS; rw [if_neg hl, if_pos (by omega)]
          rw [e]
          exact ⟨_, _, res0 rfl, ⟨rfl, _, _, _, _, hoq, by omega, rfl⟩, sub_front ⟨_, rfl⟩⟩
        · refine s_skip ?_
          refine s_drawn 1 (by kernel_rfl) ?_
          refine d_val (i := 0) rfl (by kernel_rfl) (by kernel_rfl) (by kernel_rfl) rfl rfl rfl (y_move (v := (.pointer _)) rfl) ?_
          refine d_val (i := 1) rfl (by kernel_rfl) (by kernel_rfl) (by kernel_rfl) rfl rfl rfl (y_move (v := (.pointer _)) rfl) ?_
          refine d_val (i := 2) rfl (by kernel_rfl) (by kernel_rfl) (by kernel_rfl) rfl rfl rfl (y_move (v := (.pointer _)) rfl) ?_
          refine d_val (i := 3) rfl (by kernel_rfl) (by kernel_rfl) (by kernel_rfl) rfl rfl rfl (y_move (v := (.pointer _)) rfl) ?_
          refine d_val (i := 4) rfl (by kernel_rfl) (by kernel_rfl) (by kernel_rfl) rfl rfl rfl (y_nilCheck rfl) ?_
          refine d_val (i := 5) rfl (by kernel_rfl) (by kernel_rfl) (by kernel_rfl) rfl rfl rfl (y_field0 Try.runUnderlying36 rfl Try.sizeOf3 rfl rfl) ?_
          refine d_val (i := 8) rfl (by kernel_rfl) (by kernel_rfl) (by kernel_rfl) rfl rfl rfl (y_move (v := (.pointer _)) rfl) ?_
          refine d_val (i := 9) rfl (by kernel_rfl) (by kernel_rfl) (by kernel_rfl) rfl rfl rfl (y_nilCheck rfl) ?_
          refine d_val (i := 10) rfl (by kernel_rfl) (by kernel_rfl) (by kernel_rfl) rfl rfl rfl (y_field0 Try.runUnderlying36 rfl Try.sizeOf3 rfl rfl) ?_
          refine d_now (i := 6) [(11, _, _)] rfl (by kernel_rfl) (by kernel_rfl) (by kernel_rfl) rfl rfl rfl (y_load Try.isAgg3 rfl (cel_own 0 rfl rfl)) ⟨⟨rfl, rfl, (y_load Try.isAgg3 rfl (cel_own 0 rfl rfl))⟩, trivial⟩ ?_
          refine d_val (i := 7) rfl (by kernel_rfl) (by kernel_rfl) (by kernel_rfl) rfl rfl rfl (y_sub rfl rfl (by simp only [inK]; omega)) ?_
          refine d_now (i := 11) [] rfl (by kernel_rfl) (by kernel_rfl) (by kernel_rfl) rfl rfl rfl (y_load Try.isAgg3 rfl (cel_own 0 rfl rfl)) trivial ?_
          refine d_val (i := 12) rfl (by kernel_rfl) (by kernel_rfl) (by kernel_rfl) rfl rfl rfl (y_max rfl rfl) ?_
          refine d_val (i := 13) rfl (by kernel_rfl) (by kernel_rfl) (by kernel_rfl) rfl rfl rfl (y_nilCheck rfl) ?_
          refine d_val (i := 14) rfl (by kernel_rfl) (by kernel_rfl) (by kernel_rfl) rfl rfl rfl (y_field0 Try.runUnderlying36 rfl Try.sizeOf3 rfl rfl) ?_
          refine d_eff (k := 15) (n := 1) (m := 1) rfl (by kernel_rfl) rfl ?_
          refine o_store (v := (.int _ _)) 0 rfl Try.sizeOf3 rfl rfl rfl rfl ?_
          refine o_nil ?_
          refine d_val (i := 16) rfl (by kernel_rfl) (by kernel_rfl) (by kernel_rfl) rfl rfl rfl (y_nilCheck rfl) ?_
          refine d_val (i := 17) rfl (by kernel_rfl) (by kernel_rfl) (by kernel_rfl) rfl rfl rfl (y_field0 Try.runUnderlying36 rfl Try.sizeOf3 rfl rfl) ?_
          refine d_eff (k := 18) (n := 1) (m := 1) rfl (by kernel_rfl) rfl ?_
          refine o_store (v := (.int _ _)) 0 rfl Try.sizeOf3 rfl rfl rfl rfl ?_
          refine o_nil ?_
          refine d_val (i := 19) rfl (by kernel_rfl) (by kernel_rfl) (by kernel_rfl) rfl rfl rfl (y_nilCheck rfl) ?_
          refine d_val (i := 20) rfl (by kernel_rfl) (by kernel_rfl) (by kernel_rfl) rfl rfl rfl (y_field0 Try.runUnderlying36 rfl Try.sizeOf22 rfl rfl) ?_
          refine d_eff (k := 21) (n := 1) (m := 1) rfl (by kernel_rfl) rfl ?_
          refine o_store (v := (.slice _ _ _)) 0 rfl Try.sizeOf22 rfl rfl rfl rfl ?_
          refine o_nil ?_
          refine d_nil (n := 1) (m := 1) (by kernel_rfl) rfl ?_
          have e : (noteS low high now xs calm late) = (max (now - 1) low, [], 0) := by unfold noteS; rw [if_neg hl, if_neg (by omega)]
          rw [e]
          exact ⟨_, _, res0 rfl, ⟨rfl, none, 0, 0, [], OS.nil _ _, Nat.zero_le _, rfl⟩, sub_drop1⟩

end Go.Proofs.Ytmdbmeilmhjjaaa.K
