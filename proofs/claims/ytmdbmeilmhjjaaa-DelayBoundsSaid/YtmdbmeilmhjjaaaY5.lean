/- Walks: the laws of the package delay. No condition beyond what each statement names. -/
import Derived.Test.YtmdbmeilmhjjaaaProg
import Derived.Test.YtmdbmeilmhjjaaaK12
import Derived.Test.YtmdbmeilmhjjaaaB9
import Derived.Test.YtmdbmeilmhjjaaaY1
import Derived.Test.YtmdbmeilmhjjaaaY2
import Derived.Test.YtmdbmeilmhjjaaaY3
import Derived.Test.YtmdbmeilmhjjaaaY4
set_option linter.unusedVariables false
set_option linter.unusedSimpArgs false
set_option maxRecDepth 100000
namespace Go.Proofs.Ytmdbmeilmhjjaaa.K
open Go.RowKit

theorem NewD_ok {V : Mem} (low high : Int) (h : 0 ≤ low ∧ low ≤ high ∧ high ≤ 20) : CallS Try.prog 5 [.int .i64 low, .int .i64 high].toArray V [] (fun r L' => ∃ b, r = .tuple #[.pointer (some ⟨b, 0, none⟩), .int .i64 0] ∧ L' = [dgrp b low high low none 0 0 0, []]) :=
  (NewD_c low high).mono fun _ _ h' => h'.elim (fun hh => absurd h hh.1) (fun hh => hh.2)
theorem NewD_no {V : Mem} (low high : Int) (h : ¬ (0 ≤ low ∧ low ≤ high ∧ high ≤ 20)) : CallS Try.prog 5 [.int .i64 low, .int .i64 high].toArray V [] (fun r L' => r = .tuple #[.pointer none, .int .i64 1] ∧ L' = []) :=
  (NewD_c low high).mono fun _ _ h' => h'.elim (fun hh => hh.2) (fun hh => absurd hh.1 h)
/-- The last nine. -/
def last9 (l : List Int) : List Int := l.drop (l.length - 9)
theorem tail9_last (l : List Int) (x : Int) : tail9 (last9 l ++ [x]) = last9 (l ++ [x]) := by
  unfold tail9 last9
  simp only [List.length_append, List.length_drop, List.length_cons, List.length_nil]
  split
  · rw [List.drop_append_of_le_length (by simp; omega), List.drop_drop, List.drop_append_of_le_length (by omega)]
    congr 2; omega
  · rw [show l.length - 9 = 0 by omega, show l.length + (0 + 1) - 9 = 0 by omega]; simp
/-- What the reference does. -/
def refS (low high now : Int) (l : List Int) (late : Int) : Int × List Int :=
  if 0 < clampL late then (min (now + clampL late) high, [])
  else if 8 ≤ (l ++ [clampL late]).length ∧ med (last9 (l ++ [clampL late])) < 0 then (max (now - 1) low, []) else (now, l ++ [clampL late])
theorem note_ref (low high now : Int) (l : List Int) (late : Int) : noteS low high now (last9 l) l.length late = ((refS low high now l late).1, last9 (refS low high now l late).2, ((refS low high now l late).2.length : Int)) := by
  unfold noteS refS
  rw [tail9_last]
  by_cases h : 0 < late
  · have h' : 0 < clampL late := by unfold clampL; omega
    have e : min late 20 = clampL late := by unfold clampL; omega
    rw [if_pos h, if_pos h', e]; simp [last9]
  · have h' : ¬ 0 < clampL late := by unfold clampL; omega
    rw [if_neg h, if_neg h']
    by_cases h2 : 8 ≤ (l ++ [clampL late]).length ∧ med (last9 (l ++ [clampL late])) < 0
    · rw [if_pos h2, if_neg (by simp only [List.length_append, List.length_cons, List.length_nil] at h2; omega)]; simp [last9]
    · rw [if_neg h2, if_pos (by simp only [List.length_append, List.length_cons, List.length_nil] at h2; omega)]; simp
theorem NoteR_c {V : Mem} (b : Nat) (low high now : Int) (A : Option Addr) (n c : Nat) (l : List Int) (E : Grp) (hos : OS A n c 3 1 ((last9 l).map (.int .i64)) E) (hn9 : n ≤ 9) (hok : 0 ≤ low ∧ low ≤ high ∧ high ≤ 20) (hnow : low ≤ now ∧ now ≤ high) (hl : l.length < 4611686018427387904) (late : Int) (hin : inK .i64 late) :
    CallS Try.prog 6 [.pointer (some ⟨b, 0, none⟩), .int .i64 late].toArray V [dgrp b low high now A n c l.length, E] (fun r L' => r = .tuple #[] ∧ ∃ A' n' c' E', OS A' n' c' 3 1 ((last9 (refS low high now l late).2).map (.int .i64)) E' ∧ n' ≤ 9 ∧ L' = [dgrp b low high (refS low high now l late).1 A' n' c' ((refS low high now l late).2.length : Nat), E']) :=
  (NoteD_c b low high now A n c l.length (last9 l) E hos hn9 (by omega) (by omega) (by omega) (by omega) late hin).mono fun _ _ h => by rwa [note_ref] at h
theorem refS_bd {low high now : Int} {l : List Int} {late : Int} (hok : 0 ≤ low ∧ low ≤ high ∧ high ≤ 20) (hnow : low ≤ now ∧ now ≤ high) : low ≤ (refS low high now l late).1 ∧ (refS low high now l late).1 ≤ high := by
  unfold refS clampL
  split
  · dsimp only; omega
  · split <;> dsimp only <;> omega
theorem refS_len {low high now : Int} {l : List Int} {late : Int} : (refS low high now l late).2.length ≤ l.length + 1 := by
  unfold refS
  split
  · simp
  · split <;> simp
/-- The law's state in its loop. -/
structure DL where
  i : Nat
  now : Int
  l : List Int
  A : Option Addr
  n : Nat
  c : Nat
  E : Grp
  B : Option Addr
  m : Nat
  e : Nat
  F : Grp
theorem sub_add {A L : List Grp} (h : Sub A L) : Sub (A ++ [[]]) L := fun _ _ _ hw => (h _ _ _ hw).perm (by simp)
theorem last9_cut (l : List Int) : last9 l = (l.drop (l.length - 9)).take (l.length - (l.length - 9)) := by
  unfold last9; rw [List.take_of_length_le (by simp)]
theorem os_last9 {A : Option Addr} {n c : Nat} {T : TypeId} {ys : List Int} {E : Grp} (h : OS A n c T 1 (ys.map (.int .i64)) E) {k : Nat} (hk : k = n - 9) : OS (cutA A c k 1) (n - k) (c - k) T 1 ((last9 ys).map (.int .i64)) E := by
  have hl : ys.length = n := by simpa using h.len
  have h1 := h.cut (l := k) (m := n) (by omega) (Nat.le_refl n)
  refine os_eq h1 ?_
  unfold last9
  rw [Nat.mul_one, Nat.mul_one, ← List.map_drop, List.take_of_length_le (by simp; omega), hl, hk]
theorem last9_len (l : List Int) : (last9 l).length = l.length - (l.length - 9) := by simp [last9]

theorem DSbad_c {V : Mem} (low high : Int) (N : Option Addr) (n c : Nat) (xs : List Int) (h : Cels V [] N (xs.map (.int .i64))) (hn : xs.length = n) (hb : n * 8 ≤ 140737488351232) (hxi : ∀ x ∈ xs, inK .i64 x) (hbad : ¬ (0 ≤ low ∧ low ≤ high ∧ high ≤ 20)) : CallS Try.prog 3 [.int .i64 low, .int .i64 high, .slice N n c].toArray V [] (fun r L' => r = .bool true ∧ L' = []) := by
  refine callS Try.func3 rfl rfl (fun w0 => ?_)
  refine s_seq ?_
  refine s_region ?_
  refine o_val rfl rfl rfl (y_assign (v := (.bool _)) rfl) ?_
  refine o_nil ?_
  refine s_seq ?_
  refine s_region ?_
  refine o_val rfl rfl rfl (y_move (v := (.int _ _)) rfl) ?_
  refine o_val rfl rfl rfl (y_move (v := (.int _ _)) rfl) ?_
  refine o_fn 0 (d := 19) rfl Try.call5 (NewD_no _ _ hbad) rfl ?_
  rintro _ _ ⟨rfl, rfl⟩
  refine o_val rfl rfl rfl (y_move (v := (.tuple #[(.pointer _), (.int _ _)])) rfl) ?_
  refine o_val rfl rfl rfl (y_extract (v := (.pointer _)) rfl rfl) ?_
  refine o_val rfl rfl rfl (y_extract (v := (.int _ _)) rfl rfl) ?_
  refine o_val rfl rfl rfl (y_assign (v := (.pointer _)) rfl) ?_
  refine o_val rfl rfl rfl (y_assign (v := (.int _ _)) rfl) ?_
  refine o_nil ?_
  refine s_seq ?_
  refine s_region ?_
  refine o_fn 0 (d := 23) rfl Try.call5 (NewD_ok _ _ (by omega)) rfl ?_
  rintro _ _ ⟨b2, rfl, rfl⟩
  refine o_val rfl rfl rfl (y_move (v := (.tuple #[(.pointer _), (.int _ _)])) rfl) ?_
  refine o_val rfl rfl rfl (y_extract (v := (.pointer _)) rfl rfl) ?_
  refine o_val rfl rfl rfl (y_extract (v := (.int _ _)) rfl rfl) ?_
  refine o_val rfl rfl rfl (y_assign (v := (.pointer _)) rfl) ?_
  refine o_val rfl rfl rfl (y_assign (v := (.int _ _)) rfl) ?_
  refine o_nil ?_
  refine s_forget [(0, (.int _ _)), (1, (.int _ _)), (2, (.slice _ _ _)), (6, (.bool _)), (7, (.pointer _)), (8, (.int _ _)), (9, (.pointer _)), (10, (.int _ _))] ⟨rfl, rfl, rfl, rfl, rfl, rfl, rfl, rfl, trivial⟩ (fun _f => ?_)
  refine s_seq ?_
  refine s_seq ?_
  refine s_region ?_
  refine o_val rfl rfl rfl (y_move (v := (.int _ _)) rfl) ?_
  refine o_split rfl rfl rfl (y_neq rfl rfl) (fun p1 => ?_) (fun p2 => ?_)
  · exact absurd rfl p1
  · refine o_val rfl rfl rfl (y_move (v := (.bool _)) rfl) ?_
    refine o_guard_yes rfl rfl ?_
    refine o_val rfl rfl rfl (y_move (v := (.pointer _)) rfl) ?_
    refine o_guard_yes rfl rfl ?_
    refine o_val rfl rfl rfl ((y_eql_ptr_nil (by kernel_rfl) rfl rfl).bf rfl) ?_
    refine o_val rfl rfl rfl (y_pick_f (v := (.bool _)) rfl rfl) ?_
    refine o_nil ?_
    refine s_else rfl ?_
    refine s_skip ?_
    refine s_seq ?_
    refine s_seq ?_
    refine s_region ?_
    refine o_val rfl rfl rfl (y_move (v := (.pointer _)) rfl) ?_
    refine o_fn 2 (d := 33) rfl Try.call6 (NoteR_c b2 1 5 1 none 0 0 [] [] (OS.nil _ _) (by omega) (by omega) (by omega) (by decide) 2 (by simp only [inK]; omega)) rfl ?_
    rintro _ _ ⟨rfl, nA, nn, nc, nE, nho, nh9, rfl⟩
    refine o_nil ?_
    refine s_seq ?_
    refine s_region ?_
    refine o_val rfl rfl rfl (y_move (v := (.pointer _)) rfl) ?_
    refine o_fn 1 (d := 35) rfl Try.call7 (ValueD_c _ _ _ _ _ _ _ _) rfl ?_
    rintro _ _ ⟨rfl, rfl⟩
    refine o_val rfl rfl rfl (y_neq rfl rfl) ?_
    refine o_nil ?_
    refine s_if rfl (fun h3 => ?_) (fun h4 => ?_)
    · exact absurd (by decide +kernel) h3
    · refine s_skip ?_
      refine s_seq ?_
      refine s_seq ?_
      refine s_region ?_
      refine o_val rfl rfl rfl (y_move (v := (.int _ _)) rfl) ?_
      refine o_split rfl rfl rfl (y_lss rfl rfl) (fun p5 => ?_) (fun p6 => ?_)
      · refine o_val rfl rfl rfl (y_move (v := (.bool _)) rfl) ?_
        refine o_guard_no rfl rfl rfl rfl rfl ?_
        refine o_guard_no rfl rfl rfl rfl rfl ?_
        refine o_guard_no rfl rfl rfl rfl rfl ?_
        refine o_val rfl rfl rfl (y_pick_t (v := (.bool _)) rfl rfl) ?_
        refine o_val rfl rfl rfl (y_move (v := (.bool _)) rfl) ?_
        refine o_guard_no rfl rfl rfl rfl rfl ?_
        refine o_guard_no rfl rfl rfl rfl rfl ?_
        refine o_val rfl rfl rfl (y_pick_t (v := (.bool _)) rfl rfl) ?_
        refine o_nil ?_
        refine s_forget [(0, (.int _ _)), (1, (.int _ _)), (2, (.slice _ _ _)), (6, (.bool _)), (7, (.pointer _)), (8, (.int _ _)), (47, (.bool _))] ⟨rfl, rfl, rfl, rfl, rfl, rfl, rfl, trivial⟩ (fun _f => ?_)
        refine s_then rfl ?_
        refine s_seq ?_
        refine s_region ?_
        refine o_val rfl rfl rfl (y_move (v := (.int _ _)) rfl) ?_
        refine o_split rfl rfl rfl (y_eql rfl rfl) (fun p7 => ?_) (fun p8 => ?_)
        · refine o_val rfl rfl rfl (y_move (v := (.bool _)) rfl) ?_
          refine o_guard_yes rfl rfl ?_
          refine o_val rfl rfl rfl (y_move (v := (.pointer _)) rfl) ?_
          refine o_guard_yes rfl rfl ?_
          refine o_val rfl rfl rfl ((y_eql_ptr_nil (by kernel_rfl) rfl rfl).bt rfl) ?_
          refine o_val rfl rfl rfl (y_pick_t (v := (.bool _)) rfl rfl) ?_
          refine o_val rfl rfl rfl (y_assign (v := (.bool _)) rfl) ?_
          refine o_nil ?_
          refine s_ret ?_
          exact ⟨_, [], res1 rfl rfl, ⟨rfl, rfl⟩, sub_picks [] rfl⟩
        · exact absurd rfl p8
      · refine o_val rfl rfl rfl (y_move (v := (.bool _)) rfl) ?_
        refine o_guard_yes rfl rfl ?_
        refine o_val rfl rfl rfl (y_move (v := (.int _ _)) rfl) ?_
        refine o_guard_yes rfl rfl ?_
        refine o_val rfl rfl rfl (y_move (v := (.int _ _)) rfl) ?_
        refine o_guard_yes rfl rfl ?_
        refine o_split rfl rfl rfl (y_lss rfl rfl) (fun p9 => ?_) (fun p10 => ?_)
        · refine o_val rfl rfl rfl (y_pick_f (v := (.bool _)) rfl rfl) ?_
          refine o_val rfl rfl rfl (y_move (v := (.bool _)) rfl) ?_
          refine o_guard_no rfl rfl rfl rfl rfl ?_
          refine o_guard_no rfl rfl rfl rfl rfl ?_
          refine o_val rfl rfl rfl (y_pick_t (v := (.bool _)) rfl rfl) ?_
          refine o_nil ?_
          refine s_forget [(0, (.int _ _)), (1, (.int _ _)), (2, (.slice _ _ _)), (6, (.bool _)), (7, (.pointer _)), (8, (.int _ _)), (47, (.bool _))] ⟨rfl, rfl, rfl, rfl, rfl, rfl, rfl, trivial⟩ (fun _f => ?_)
          refine s_then rfl ?_
          refine s_seq ?_
          refine s_region ?_
          refine o_val rfl rfl rfl (y_move (v := (.int _ _)) rfl) ?_
          refine o_split rfl rfl rfl (y_eql rfl rfl) (fun p11 => ?_) (fun p12 => ?_)
          · refine o_val rfl rfl rfl (y_move (v := (.bool _)) rfl) ?_
            refine o_guard_yes rfl rfl ?_
            refine o_val rfl rfl rfl (y_move (v := (.pointer _)) rfl) ?_
            refine o_guard_yes rfl rfl ?_
            refine o_val rfl rfl rfl ((y_eql_ptr_nil (by kernel_rfl) rfl rfl).bt rfl) ?_
            refine o_val rfl rfl rfl (y_pick_t (v := (.bool _)) rfl rfl) ?_
            refine o_val rfl rfl rfl (y_assign (v := (.bool _)) rfl) ?_
            refine o_nil ?_
            refine s_ret ?_
            exact ⟨_, [], res1 rfl rfl, ⟨rfl, rfl⟩, sub_picks [] rfl⟩
          · exact absurd rfl p12
        · refine o_val rfl rfl rfl (y_pick_f (v := (.bool _)) rfl rfl) ?_
          refine o_val rfl rfl rfl (y_move (v := (.bool _)) rfl) ?_
          refine o_guard_yes rfl rfl ?_
          refine o_val rfl rfl rfl (y_move (v := (.int _ _)) rfl) ?_
          refine o_guard_yes rfl rfl ?_
          refine o_val rfl rfl rfl (y_gtr rfl rfl) ?_
          refine o_val rfl rfl rfl (y_pick_f (v := (.bool _)) rfl rfl) ?_
          refine o_nil ?_
          refine s_forget [(0, (.int _ _)), (1, (.int _ _)), (2, (.slice _ _ _)), (6, (.bool _)), (7, (.pointer _)), (8, (.int _ _)), (47, (.bool _))] ⟨rfl, rfl, rfl, rfl, rfl, rfl, rfl, trivial⟩ (fun _f => ?_)
          refine s_if rfl (fun h13 => ?_) (fun h14 => ?_)
          · refine s_seq ?_
            refine s_region ?_
            refine o_val rfl rfl rfl (y_move (v := (.int _ _)) rfl) ?_
            refine o_split rfl rfl rfl (y_eql rfl rfl) (fun p15 => ?_) (fun p16 => ?_)
            · refine o_val rfl rfl rfl (y_move (v := (.bool _)) rfl) ?_
              refine o_guard_yes rfl rfl ?_
              refine o_val rfl rfl rfl (y_move (v := (.pointer _)) rfl) ?_
              refine o_guard_yes rfl rfl ?_
              refine o_val rfl rfl rfl ((y_eql_ptr_nil (by kernel_rfl) rfl rfl).bt rfl) ?_
              refine o_val rfl rfl rfl (y_pick_t (v := (.bool _)) rfl rfl) ?_
              refine o_val rfl rfl rfl (y_assign (v := (.bool _)) rfl) ?_
              refine o_nil ?_
              refine s_ret ?_
              exact ⟨_, [], res1 rfl rfl, ⟨rfl, rfl⟩, sub_picks [] rfl⟩
            · exact absurd rfl p16
          · exfalso; omega

theorem getD_in' {l : List Int} {j : Nat} (h : j < l.length) : l.getD j 0 ∈ l := by
  rw [List.getD_eq_getElem?_getD, List.getElem?_eq_getElem h]; simp

theorem DSok_k0 (v0 : Int) (w : World) : (Instr.buildSlice 22 1 ([(0, (.int .i64 v0))] : List (Nat × Value)).toArray).run Try.prog w = .ok (.slice (some ⟨w.heap.size, 0, none⟩) 1 1) { w with heap := w.heap.push (.cells ([.int .i64 v0] : List Value).toArray 3 (0, 0)) } := by kernel_rfl
theorem DSok_c {V : Mem} (low high : Int) (N : Option Addr) (n c : Nat) (xs : List Int) (h : Cels V [] N (xs.map (.int .i64))) (hn : xs.length = n) (hb : n * 8 ≤ 140737488351232) (hxi : ∀ x ∈ xs, inK .i64 x) (hok : 0 ≤ low ∧ low ≤ high ∧ high ≤ 20) : CallS Try.prog 3 [.int .i64 low, .int .i64 high, .slice N n c].toArray V [] (fun r L' => r = .bool true ∧ L' = []) := by
  refine callS Try.func3 rfl rfl (fun w0 => ?_)
  refine s_seq ?_
  refine s_region ?_
  refine o_val rfl rfl rfl (y_assign (v := (.bool _)) rfl) ?_
  refine o_nil ?_
  refine s_seq ?_
  refine s_region ?_
  refine o_val rfl rfl rfl (y_move (v := (.int _ _)) rfl) ?_
  refine o_val rfl rfl rfl (y_move (v := (.int _ _)) rfl) ?_
  refine o_fn 0 (d := 19) rfl Try.call5 (NewD_ok _ _ hok) rfl ?_
  rintro _ _ ⟨b1, rfl, rfl⟩
  refine o_val rfl rfl rfl (y_move (v := (.tuple #[(.pointer _), (.int _ _)])) rfl) ?_
  refine o_val rfl rfl rfl (y_extract (v := (.pointer _)) rfl rfl) ?_
  refine o_val rfl rfl rfl (y_extract (v := (.int _ _)) rfl rfl) ?_
  refine o_val rfl rfl rfl (y_assign (v := (.pointer _)) rfl) ?_
  refine o_val rfl rfl rfl (y_assign (v := (.int _ _)) rfl) ?_
  refine o_nil ?_
  refine s_seq ?_
  refine s_region ?_
  refine o_fn 0 (d := 23) rfl Try.call5 (NewD_ok _ _ (by omega)) rfl ?_
  rintro _ _ ⟨b2, rfl, rfl⟩
  refine o_val rfl rfl rfl (y_move (v := (.tuple #[(.pointer _), (.int _ _)])) rfl) ?_
  refine o_val rfl rfl rfl (y_extract (v := (.pointer _)) rfl rfl) ?_
  refine o_val rfl rfl rfl (y_extract (v := (.int _ _)) rfl rfl) ?_
  refine o_val rfl rfl rfl (y_assign (v := (.pointer _)) rfl) ?_
  refine o_val rfl rfl rfl (y_assign (v := (.int _ _)) rfl) ?_
  refine o_nil ?_
  refine s_forget [(0, (.int _ _)), (1, (.int _ _)), (2, (.slice _ _ _)), (6, (.bool _)), (7, (.pointer _)), (8, (.int _ _)), (9, (.pointer _)), (10, (.int _ _))] ⟨rfl, rfl, rfl, rfl, rfl, rfl, rfl, rfl, trivial⟩ (fun _f => ?_)
  refine s_seq ?_
  refine s_seq ?_
  refine s_region ?_
  refine o_val rfl rfl rfl (y_move (v := (.int _ _)) rfl) ?_
  refine o_split rfl rfl rfl (y_neq rfl rfl) (fun p1 => ?_) (fun p2 => ?_)
  · exact absurd rfl p1
  · refine o_val rfl rfl rfl (y_move (v := (.bool _)) rfl) ?_
    refine o_guard_yes rfl rfl ?_
    refine o_val rfl rfl rfl (y_move (v := (.pointer _)) rfl) ?_
    refine o_guard_yes rfl rfl ?_
    refine o_val rfl rfl rfl ((y_eql_ptr_nil (by kernel_rfl) rfl rfl).bf rfl) ?_
    refine o_val rfl rfl rfl (y_pick_f (v := (.bool _)) rfl rfl) ?_
    refine o_nil ?_
    refine s_else rfl ?_
    refine s_skip ?_
    refine s_seq ?_
    refine s_seq ?_
    refine s_region ?_
    refine o_val rfl rfl rfl (y_move (v := (.pointer _)) rfl) ?_
    refine o_fn 2 (d := 33) rfl Try.call6 (NoteR_c b2 1 5 1 none 0 0 [] [] (OS.nil _ _) (by omega) (by omega) (by omega) (by decide) 2 (by simp only [inK]; omega)) rfl ?_
    rintro _ _ ⟨rfl, nA, nn, nc, nE, nho, nh9, rfl⟩
    refine o_nil ?_
    refine s_seq ?_
    refine s_region ?_
    refine o_val rfl rfl rfl (y_move (v := (.pointer _)) rfl) ?_
    refine o_fn 1 (d := 35) rfl Try.call7 (ValueD_c _ _ _ _ _ _ _ _) rfl ?_
    rintro _ _ ⟨rfl, rfl⟩
    refine o_val rfl rfl rfl (y_neq rfl rfl) ?_
    refine o_nil ?_
    refine s_if rfl (fun h3 => ?_) (fun h4 => ?_)
    · exact absurd (by decide +kernel) h3
    · refine s_skip ?_
      refine s_seq ?_
      refine s_seq ?_
      refine s_region ?_
      refine o_val rfl rfl rfl (y_move (v := (.int _ _)) rfl) ?_
      refine o_split rfl rfl rfl (y_lss rfl rfl) (fun p5 => ?_) (fun p6 => ?_)
      · exfalso; omega
      · refine o_val rfl rfl rfl (y_move (v := (.bool _)) rfl) ?_
        refine o_guard_yes rfl rfl ?_
        refine o_val rfl rfl rfl (y_move (v := (.int _ _)) rfl) ?_
        refine o_guard_yes rfl rfl ?_
        refine o_val rfl rfl rfl (y_move (v := (.int _ _)) rfl) ?_
        refine o_guard_yes rfl rfl ?_
        refine o_split rfl rfl rfl (y_lss rfl rfl) (fun p7 => ?_) (fun p8 => ?_)
        · exfalso; omega
        · refine o_val rfl rfl rfl (y_pick_f (v := (.bool _)) rfl rfl) ?_
          refine o_val rfl rfl rfl (y_move (v := (.bool _)) rfl) ?_
          refine o_guard_yes rfl rfl ?_
          refine o_val rfl rfl rfl (y_move (v := (.int _ _)) rfl) ?_
          refine o_guard_yes rfl rfl ?_
          refine o_val rfl rfl rfl (y_gtr rfl rfl) ?_
          refine o_val rfl rfl rfl (y_pick_f (v := (.bool _)) rfl rfl) ?_
          refine o_nil ?_
          refine s_forget [(0, (.int _ _)), (1, (.int _ _)), (2, (.slice _ _ _)), (6, (.bool _)), (7, (.pointer _)), (8, (.int _ _)), (47, (.bool _))] ⟨rfl, rfl, rfl, rfl, rfl, rfl, rfl, trivial⟩ (fun _f => ?_)
          refine s_if rfl (fun h9 => ?_) (fun h10 => ?_)
          · exfalso; omega
          · refine s_skip ?_
            refine s_seq ?_
            refine s_seq ?_
            refine s_region ?_
            refine o_val rfl rfl rfl (y_move (v := (.int _ _)) rfl) ?_
            refine o_val rfl rfl rfl (y_neq rfl rfl) ?_
            refine o_nil ?_
            refine s_if rfl (fun h11 => ?_) (fun h12 => ?_)
            · exact absurd rfl h11
            · refine s_skip ?_
              refine s_seq ?_
              refine s_region ?_
              refine o_val rfl rfl rfl (y_move (v := (.int _ _)) rfl) ?_
              refine o_val rfl rfl rfl (y_assign (v := (.int _ _)) rfl) ?_
              refine o_nil ?_
              refine s_seq ?_
              refine s_region ?_
              refine o_val rfl rfl rfl (y_assign (v := (.slice _ _ _)) rfl) ?_
              refine o_nil ?_
              refine s_seq ?_
              refine s_seq ?_
              refine s_region ?_
              refine o_val rfl rfl rfl (y_move (v := (.slice _ _ _)) rfl) ?_
              refine o_val rfl rfl rfl (y_len Try.runUnderlying22 rfl) ?_
              refine o_val rfl rfl rfl (y_move (v := (.int _ _)) rfl) ?_
              refine o_nil ?_
              refine s_block ?_
              refine s_sub_picks [2, 2] rfl ?_
              refine s_group ?_
              refine s_loop (γ := DL) (fun g => [(0, .int .i64 low), (1, .int .i64 high), (7, .pointer (some ⟨b1, 0, none⟩)), (11, .int .i64 g.now), (12, .slice g.B g.m g.e), (57, .slice N n c), (58, .int .i64 n), (59, .int .i64 g.i)]) (fun g => [dgrp b1 low high g.now g.A g.n g.c (g.l.length : Nat), g.E, g.F]) (fun g => g.i ≤ n ∧ OS g.A g.n g.c 3 1 ((last9 g.l).map (.int .i64)) g.E ∧ g.n ≤ 9 ∧ OS g.B g.m g.e 3 1 (g.l.map (.int .i64)) g.F ∧ (low ≤ g.now ∧ g.now ≤ high) ∧ g.l.length ≤ g.i) (fun g => n - g.i) (DL.mk 0 low [] none 0 0 [] none 0 0 []) ?_ ⟨rfl, rfl, rfl, rfl, rfl, rfl, rfl, rfl, trivial⟩ (sub_front ⟨_, rfl⟩) ?_
              · exact ⟨Nat.zero_le _, OS.nil _ _, Nat.zero_le _, OS.nil _ _, ⟨Int.le_refl _, hok.2.1⟩, Nat.le_refl _⟩
              · intro g _f hI
                obtain ⟨hi, ho, hn9, hol, hnow, hlen⟩ := hI
                have hlm : g.l.length = g.m := by simpa using hol.len
                refine s_seq ?_
                refine s_region ?_
                refine o_val rfl rfl rfl (y_lss rfl rfl) ?_
                refine o_nil ?_
                refine s_seq ?_
                refine s_if rfl (fun h13 => ?_) (fun h14 => ?_)
                · refine s_skip ?_
                  refine s_seq ?_
                  refine s_block ?_
                  refine s_seq ?_
                  refine s_region ?_
                  refine o_val rfl rfl rfl (y_index1 Try.runUnderlying22 Try.sizeOf3 (some_int (i := 0) h (by omega)) rfl rfl (by omega)) ?_
                  refine o_val rfl rfl rfl (y_load Try.isAgg3 rfl (cel_int h.here (by omega))) ?_
                  refine o_val rfl rfl rfl (y_assign (v := (.int _ _)) rfl) ?_
                  refine o_nil ?_
                  refine s_seq ?_
                  refine s_region ?_
                  refine o_val rfl rfl rfl (y_move (v := (.pointer _)) rfl) ?_
                  refine o_val rfl rfl rfl (y_move (v := (.int _ _)) rfl) ?_
                  have hlate : inK .i64 (xs.getD ((g.i : Int)).toNat 0) := hxi _ (getD_in' (by omega))
                  refine o_fn 2 (d := 65) rfl Try.call6 (NoteR_c b1 low high g.now g.A g.n g.c g.l g.E ho hn9 hok hnow (by omega) _ hlate) rfl ?_
                  rintro _ _ ⟨rfl, A', n', c', E', ho', hn', rfl⟩
                  refine o_nil ?_
                  refine s_seq ?_
                  refine s_region ?_
                  refine o_val rfl rfl rfl (y_move (v := (.int _ _)) rfl) ?_
                  refine o_val rfl rfl rfl (y_max rfl rfl) ?_
                  refine o_val rfl rfl rfl (y_min rfl rfl) ?_
                  refine o_val rfl rfl rfl (y_assign (v := (.int _ _)) rfl) ?_
                  refine o_nil ?_
                  refine s_seq ?_
                  refine s_seq ?_
                  refine s_region ?_
                  refine o_val rfl rfl rfl (y_move (v := (.int _ _)) rfl) ?_
                  refine o_val rfl rfl rfl (y_gtr rfl rfl) ?_
                  refine o_nil ?_
                  refine s_if rfl (fun h15 => ?_) (fun h16 => ?_)
                  · have hr : (refS low high g.now g.l (xs.getD ((g.i : Int)).toNat 0)) = (min (g.now + clampL (xs.getD ((g.i : Int)).toNat 0)) high, []) := by unfold refS; rw [if_pos (show 0 < clampL (xs.getD ((g.i : Int)).toNat 0) from h15)]
                    refine s_region ?_
                    refine o_val rfl rfl rfl (y_move (v := (.int _ _)) rfl) ?_
                    refine o_val rfl rfl rfl (y_move (v := (.int _ _)) rfl) ?_
                    refine o_val rfl rfl rfl (y_add rfl rfl (by have := hlate; simp only [inK] at this ⊢; omega)) ?_
                    refine o_val rfl rfl rfl (y_move (v := (.int _ _)) rfl) ?_
                    refine o_val rfl rfl rfl (y_min rfl rfl) ?_
                    refine o_val rfl rfl rfl (y_assign (v := (.int _ _)) rfl) ?_
                    refine o_val rfl rfl rfl (y_assign (v := (.slice _ _ _)) rfl) ?_
                    refine o_nil ?_
                    refine s_seq ?_
                    refine s_region ?_
                    refine o_val rfl rfl rfl (y_move (v := (.pointer _)) rfl) ?_
                    refine o_fn 1 (d := 106) rfl Try.call7 (ValueD_c _ _ _ _ _ _ _ _) rfl ?_
                    rintro _ _ ⟨rfl, rfl⟩
                    refine o_val rfl rfl rfl (y_move (v := (.int _ _)) rfl) ?_
                    refine o_val rfl rfl rfl (y_neq rfl rfl) ?_
                    refine o_nil ?_
                    refine s_if rfl (fun h17 => ?_) (fun h18 => ?_)
                    · exact absurd (by rw [hr] <;> rfl) h17
                    · refine s_skip ?_
                      refine s_region ?_
                      refine o_val rfl rfl rfl (y_add rfl rfl (by simp only [inK]; omega)) ?_
                      refine o_val rfl rfl rfl (y_move (v := (.int _ _)) rfl) ?_
                      refine o_nil ?_
                      exact ⟨DL.mk (g.i + 1) (refS low high g.now g.l (xs.getD ((g.i : Int)).toNat 0)).1 (refS low high g.now g.l (xs.getD ((g.i : Int)).toNat 0)).2 A' n' c' E' none 0 0 [], (by first | omega | (dsimp only; omega)), ⟨by dsimp only; omega, ho', hn', (by rw [hr]; exact OS.nil _ _), refS_bd hok hnow, Nat.le_trans refS_len (by dsimp only; omega)⟩, ⟨rfl, rfl, rfl, (congrArg (Value.int .i64) (by dsimp only; rw [hr] <;> rfl)), rfl, rfl, rfl, (congrArg (Value.int .i64) (by dsimp only; omega)), trivial⟩, sub_add (sub_picks [0, 0] rfl)⟩
                  · have hcl : ¬ 0 < clampL (xs.getD ((g.i : Int)).toNat 0) := h16
                    refine s_seq ?_
                    refine s_region ?_
                    refine o_val rfl rfl rfl (y_move (v := (.slice _ _ _)) rfl) ?_
                    refine o_val rfl rfl rfl (y_move (v := (.int _ _)) rfl) ?_
                    refine o_lit (vs := [(0, .int _ _)]) rfl rfl (DSok_k0 _) (fun b19 => ?_)
                    refine o_append (sz := 1) (bytes := 8) (news := [(.int _ _)]) 2 rfl Try.underlying22 Try.type3 rfl rfl rfl rfl rfl hol rfl rfl (Src.slice Try.underlying22 (cels_own 3 rfl rfl) rfl (by simp [Value.oneCell']) (by simp)) (by omega) (fun A20 c21 E22 ho23 hn24 => ?_)
                    have ho25 : OS A20 (g.m + 1) c21 3 1 ((g.l ++ [clampL (xs.getD ((g.i : Int)).toNat 0)]).map (.int .i64)) E22 := os_app_int (cs := [clampL (xs.getD ((g.i : Int)).toNat 0)]) ho23
                    clear ho23
                    refine o_val rfl rfl rfl (y_assign (v := (.slice _ _ _)) rfl) ?_
                    refine o_nil ?_
                    refine s_norm [[(_, .cells [(.int _ _), (.int _ _), (.int _ _), (.slice _ _ _), (.int _ _)].toArray 36 (0, 0))], _, _, [(_, .cells [(.int _ _)].toArray 3 (0, 0))]] rfl ?_
                    refine s_seq ?_
                    refine s_region ?_
                    refine o_val rfl rfl rfl (y_move (v := (.slice _ _ _)) rfl) ?_
                    refine o_val rfl rfl rfl (y_move (v := (.slice _ _ _)) rfl) ?_
                    refine o_val rfl rfl rfl (y_len Try.runUnderlying22 rfl) ?_
                    refine o_val rfl rfl rfl (y_sub rfl rfl (by simp only [inK]; omega)) ?_
                    refine o_val rfl rfl rfl (y_max rfl rfl) ?_
                    refine o_val rfl rfl rfl (y_cut_lo Try.runUnderlying22 Try.sizeOf3 rfl rfl (by omega)) ?_
                    have hcut := os_last9 ho25 (k := (max 0 (((g.m + 1 : Nat) : Int) - 9)).toNat) (by omega)
                    refine o_fn 0 (d := 86) rfl Try.call9 (Values_c _ _ _) rfl ?_
                    rintro _ _ ⟨vb, rfl, rfl⟩
                    refine o_fn 1 (d := 87) rfl Try.call8 (Sorted_c _ _ _ (last9 (g.l ++ [clampL (xs.getD ((g.i : Int)).toNat 0)])) (hcut.cels (j := 2) rfl).down (by simpa using hcut.len) (by omega) (by omega) _) rfl ?_
                    rintro _ _ ⟨B, e, E, rfl, hso, rfl⟩
                    refine o_val rfl rfl rfl (y_assign (v := (.slice _ _ _)) rfl) ?_
                    refine o_nil ?_
                    refine s_seq ?_
                    refine s_region ?_
                    refine o_val rfl rfl rfl (y_move (v := (.slice _ _ _)) rfl) ?_
                    refine o_val rfl rfl rfl (y_len Try.runUnderlying22 rfl) ?_
                    refine o_split rfl rfl rfl (y_geq rfl rfl) (fun p26 => ?_) (fun p27 => ?_)
                    · have h8 := p26
                      refine o_val rfl rfl rfl (y_move (v := (.bool _)) rfl) ?_
                      refine o_guard_yes rfl rfl ?_
                      refine o_val rfl rfl rfl (y_move (v := (.slice _ _ _)) rfl) ?_
                      refine o_guard_yes rfl rfl ?_
                      refine o_val rfl rfl rfl (y_move (v := (.slice _ _ _)) rfl) ?_
                      refine o_guard_yes rfl rfl ?_
                      refine o_val rfl rfl rfl (y_len Try.runUnderlying22 rfl) ?_
                      refine o_guard_yes rfl rfl ?_
                      refine o_val rfl rfl rfl (y_sub rfl rfl (by simp only [inK]; omega)) ?_
                      refine o_guard_yes rfl rfl ?_
                      refine o_val rfl rfl rfl (y_quo rfl rfl (⟨by omega, by decide, by simp only [inK]; omega⟩)) ?_
                      refine o_guard_yes rfl rfl ?_
                      refine o_val rfl rfl rfl (y_index1 Try.runUnderlying22 Try.sizeOf3 (hso.some_of (by omega)) rfl rfl (by omega)) ?_
                      refine o_guard_yes rfl rfl ?_
                      refine o_val rfl rfl rfl (y_load Try.isAgg3 rfl (cel_int (hso.cels (j := 0) rfl) (by rw [srt_len, last9_len]; simp only [List.length_append, List.length_cons, List.length_nil]; omega))) ?_
                      refine o_guard_yes rfl rfl ?_
                      refine o_split rfl rfl rfl (y_lss rfl rfl) (fun p28 => ?_) (fun p29 => ?_)
                      · have hneg := p28
                        refine o_val rfl rfl rfl (y_pick_t (v := (.bool _)) rfl rfl) ?_
                        refine o_nil ?_
                        refine s_then rfl ?_
                        refine s_region ?_
                        have hr : (refS low high g.now g.l (xs.getD ((g.i : Int)).toNat 0)) = (max (g.now - 1) low, []) := by
                          have hme : med (last9 (g.l ++ [clampL (xs.getD ((g.i : Int)).toNat 0)])) = (srt (last9 (g.l ++ [clampL (xs.getD ((g.i : Int)).toNat 0)]))).getD ((((g.m + 1 - (max 0 (((g.m + 1 : Nat) : Int) - 9)).toNat : Nat) : Int) - 1) / 2).toNat 0 := by
                            unfold med
                            rw [last9_len, show ((((g.m + 1 - (max 0 (((g.m + 1 : Nat) : Int) - 9)).toNat : Nat) : Int) - 1) / 2).toNat = ((g.l ++ [clampL (xs.getD ((g.i : Int)).toNat 0)]).length - ((g.l ++ [clampL (xs.getD ((g.i : Int)).toNat 0)]).length - 9) - 1) / 2 by simp only [List.length_append, List.length_cons, List.length_nil]; omega]
                          unfold refS; rw [if_neg hcl, if_pos ⟨by simp only [List.length_append, List.length_cons, List.length_nil]; omega, by rw [hme]; exact hneg⟩]
                        refine o_val rfl rfl rfl (y_move (v := (.int _ _)) rfl) ?_
                        refine o_val rfl rfl rfl (y_sub rfl rfl (by simp only [inK]; omega)) ?_
                        refine o_val rfl rfl rfl (y_move (v := (.int _ _)) rfl) ?_
                        refine o_val rfl rfl rfl (y_max rfl rfl) ?_
                        refine o_val rfl rfl rfl (y_assign (v := (.int _ _)) rfl) ?_
                        refine o_val rfl rfl rfl (y_assign (v := (.slice _ _ _)) rfl) ?_
                        refine o_nil ?_
                        refine s_seq ?_
                        refine s_region ?_
                        refine o_val rfl rfl rfl (y_move (v := (.pointer _)) rfl) ?_
                        refine o_pull 1 ?_
                        refine o_fn 1 (d := 106) rfl Try.call7 (ValueD_c _ _ _ _ _ _ _ _) rfl ?_
                        rintro _ _ ⟨rfl, rfl⟩
                        refine o_val rfl rfl rfl (y_move (v := (.int _ _)) rfl) ?_
                        refine o_val rfl rfl rfl (y_neq rfl rfl) ?_
                        refine o_nil ?_
                        refine s_if rfl (fun h30 => ?_) (fun h31 => ?_)
                        · exact absurd (by rw [hr] <;> rfl) h30
                        · refine s_skip ?_
                          refine s_region ?_
                          refine o_val rfl rfl rfl (y_add rfl rfl (by simp only [inK]; omega)) ?_
                          refine o_val rfl rfl rfl (y_move (v := (.int _ _)) rfl) ?_
                          refine o_nil ?_
                          exact ⟨DL.mk (g.i + 1) (refS low high g.now g.l (xs.getD ((g.i : Int)).toNat 0)).1 (refS low high g.now g.l (xs.getD ((g.i : Int)).toNat 0)).2 A' n' c' E' none 0 0 [], (by first | omega | (dsimp only; omega)), ⟨by dsimp only; omega, ho', hn', (by rw [hr]; exact OS.nil _ _), refS_bd hok hnow, Nat.le_trans refS_len (by dsimp only; omega)⟩, ⟨rfl, rfl, rfl, (congrArg (Value.int .i64) (by dsimp only; rw [hr] <;> rfl)), rfl, rfl, rfl, (congrArg (Value.int .i64) (by dsimp only; omega)), trivial⟩, sub_add (sub_picks [0, 1] rfl)⟩
                      · have hneg := p29
                        refine o_val rfl rfl rfl (y_pick_t (v := (.bool _)) rfl rfl) ?_
                        refine o_nil ?_
                        refine s_else rfl ?_
                        refine s_skip ?_
                        refine s_seq ?_
                        refine s_region ?_
                        have hr : (refS low high g.now g.l (xs.getD ((g.i : Int)).toNat 0)) = (g.now, g.l ++ [clampL (xs.getD ((g.i : Int)).toNat 0)]) := by
                          have hme : med (last9 (g.l ++ [clampL (xs.getD ((g.i : Int)).toNat 0)])) = (srt (last9 (g.l ++ [clampL (xs.getD ((g.i : Int)).toNat 0)]))).getD ((((g.m + 1 - (max 0 (((g.m + 1 : Nat) : Int) - 9)).toNat : Nat) : Int) - 1) / 2).toNat 0 := by
                            unfold med
                            rw [last9_len, show ((((g.m + 1 - (max 0 (((g.m + 1 : Nat) : Int) - 9)).toNat : Nat) : Int) - 1) / 2).toNat = ((g.l ++ [clampL (xs.getD ((g.i : Int)).toNat 0)]).length - ((g.l ++ [clampL (xs.getD ((g.i : Int)).toNat 0)]).length - 9) - 1) / 2 by simp only [List.length_append, List.length_cons, List.length_nil]; omega]
                          unfold refS; rw [if_neg hcl, if_neg (fun hh => by have h2 := hh.2; rw [hme] at h2; omega)]
                        refine o_val rfl rfl rfl (y_move (v := (.pointer _)) rfl) ?_
                        refine o_pull 1 ?_
                        refine o_fn 1 (d := 106) rfl Try.call7 (ValueD_c _ _ _ _ _ _ _ _) rfl ?_
                        rintro _ _ ⟨rfl, rfl⟩
                        refine o_val rfl rfl rfl (y_move (v := (.int _ _)) rfl) ?_
                        refine o_val rfl rfl rfl (y_neq rfl rfl) ?_
                        refine o_nil ?_
                        refine s_if rfl (fun h32 => ?_) (fun h33 => ?_)
                        · exact absurd (by rw [hr] <;> rfl) h32
                        · refine s_skip ?_
                          refine s_region ?_
                          refine o_val rfl rfl rfl (y_add rfl rfl (by simp only [inK]; omega)) ?_
                          refine o_val rfl rfl rfl (y_move (v := (.int _ _)) rfl) ?_
                          refine o_nil ?_
                          exact ⟨DL.mk (g.i + 1) (refS low high g.now g.l (xs.getD ((g.i : Int)).toNat 0)).1 (refS low high g.now g.l (xs.getD ((g.i : Int)).toNat 0)).2 A' n' c' E' A20 (g.m + 1) c21 E22, (by first | omega | (dsimp only; omega)), ⟨by dsimp only; omega, ho', hn', (by rw [hr]; exact ho25), refS_bd hok hnow, Nat.le_trans refS_len (by dsimp only; omega)⟩, ⟨rfl, rfl, rfl, (congrArg (Value.int .i64) (by dsimp only; rw [hr] <;> rfl)), rfl, rfl, rfl, (congrArg (Value.int .i64) (by dsimp only; omega)), trivial⟩, sub_picks [0, 1, 1] rfl⟩
                    · have h8 := p27
                      refine o_val rfl rfl rfl (y_move (v := (.bool _)) rfl) ?_
                      refine o_guard_no rfl rfl rfl rfl rfl ?_
                      refine o_guard_no rfl rfl rfl rfl rfl ?_
                      refine o_guard_no rfl rfl rfl rfl rfl ?_
                      refine o_guard_no rfl rfl rfl rfl rfl ?_
                      refine o_guard_no rfl rfl rfl rfl rfl ?_
                      refine o_guard_no rfl rfl rfl rfl rfl ?_
                      refine o_guard_no rfl rfl rfl rfl rfl ?_
                      refine o_guard_no rfl rfl rfl rfl rfl ?_
                      refine o_val rfl rfl rfl (y_pick_f (v := (.bool _)) rfl rfl) ?_
                      refine o_nil ?_
                      refine s_else rfl ?_
                      refine s_skip ?_
                      refine s_seq ?_
                      refine s_region ?_
                      have hr : (refS low high g.now g.l (xs.getD ((g.i : Int)).toNat 0)) = (g.now, g.l ++ [clampL (xs.getD ((g.i : Int)).toNat 0)]) := by
                        unfold refS; rw [if_neg hcl, if_neg (fun hh => by have h1 := hh.1; simp only [List.length_append, List.length_cons, List.length_nil] at h1; omega)]
                      refine o_val rfl rfl rfl (y_move (v := (.pointer _)) rfl) ?_
                      refine o_pull 1 ?_
                      refine o_fn 1 (d := 106) rfl Try.call7 (ValueD_c _ _ _ _ _ _ _ _) rfl ?_
                      rintro _ _ ⟨rfl, rfl⟩
                      refine o_val rfl rfl rfl (y_move (v := (.int _ _)) rfl) ?_
                      refine o_val rfl rfl rfl (y_neq rfl rfl) ?_
                      refine o_nil ?_
                      refine s_if rfl (fun h34 => ?_) (fun h35 => ?_)
                      · exact absurd (by rw [hr] <;> rfl) h34
                      · refine s_skip ?_
                        refine s_region ?_
                        refine o_val rfl rfl rfl (y_add rfl rfl (by simp only [inK]; omega)) ?_
                        refine o_val rfl rfl rfl (y_move (v := (.int _ _)) rfl) ?_
                        refine o_nil ?_
                        exact ⟨DL.mk (g.i + 1) (refS low high g.now g.l (xs.getD ((g.i : Int)).toNat 0)).1 (refS low high g.now g.l (xs.getD ((g.i : Int)).toNat 0)).2 A' n' c' E' A20 (g.m + 1) c21 E22, (by first | omega | (dsimp only; omega)), ⟨by dsimp only; omega, ho', hn', (by rw [hr]; exact ho25), refS_bd hok hnow, Nat.le_trans refS_len (by dsimp only; omega)⟩, ⟨rfl, rfl, rfl, (congrArg (Value.int .i64) (by dsimp only; rw [hr] <;> rfl)), rfl, rfl, rfl, (congrArg (Value.int .i64) (by dsimp only; omega)), trivial⟩, sub_picks [0, 1, 1] rfl⟩
                · refine s_exit ?_
                  refine s_seq ?_
                  refine s_region ?_
                  refine o_val rfl rfl rfl (y_assign (v := (.bool _)) rfl) ?_
                  refine o_nil ?_
                  refine s_ret ?_
                  exact ⟨_, [], res1 rfl rfl, ⟨rfl, rfl⟩, sub_picks [] rfl⟩

theorem DelaySays_c {V : Mem} (low high : Int) (N : Option Addr) (n c : Nat) (xs : List Int) (h : Cels V [] N (xs.map (.int .i64))) (hn : xs.length = n) (hb : n * 8 ≤ 140737488351232) (hxi : ∀ x ∈ xs, inK .i64 x) : CallS Try.prog 3 [.int .i64 low, .int .i64 high, .slice N n c].toArray V [] (fun r L' => r = .bool true ∧ L' = []) := by
  by_cases hok : 0 ≤ low ∧ low ≤ high ∧ high ≤ 20
  · exact DSok_c low high N n c xs h hn hb hxi hok
  · exact DSbad_c low high N n c xs h hn hb hxi hok

end Go.Proofs.Ytmdbmeilmhjjaaa.K
