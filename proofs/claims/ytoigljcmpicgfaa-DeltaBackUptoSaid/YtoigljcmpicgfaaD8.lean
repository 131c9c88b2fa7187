/- Walks: the facts that a difference is written and read, and the law on differences. No condition beyond what each statement names. -/
import Derived.Test.YtoigljcmpicgfaaProg
import Derived.Test.YtoigljcmpicgfaaB8
import Derived.Test.YtoigljcmpicgfaaI1
import Derived.Test.YtoigljcmpicgfaaI4
import Derived.Test.YtoigljcmpicgfaaI7
import Derived.Test.YtoigljcmpicgfaaI8
import Derived.Test.YtoigljcmpicgfaaI9
import Derived.Test.YtoigljcmpicgfaaD1
import Derived.Test.YtoigljcmpicgfaaD2
import Derived.Test.YtoigljcmpicgfaaD3
import Derived.Test.YtoigljcmpicgfaaD4
import Derived.Test.YtoigljcmpicgfaaD5
import Derived.Test.YtoigljcmpicgfaaD6
import Derived.Test.YtoigljcmpicgfaaD7
set_option linter.unusedVariables false
set_option linter.unusedSimpArgs false
set_option maxRecDepth 100000
namespace Go.Proofs.Ytoigljcmpicgfaa.K
open Go.RowKit

theorem EqN_c {V : Mem} (A : Option Addr) (n c : Nat) (bs : List Int) (h : Cels V [] A ((bs).map (.int .i64))) (hn : bs.length = n) (B : Option Addr) (m d : Nat) (cs : List Int) (h' : Cels V [] B ((cs).map (.int .i64))) (hm : cs.length = m) (hsz : n ≤ 140737488355328) : CallS Try.prog 11 [.slice A n c, .slice B m d].toArray V [] (fun r L' => r = .bool (decide (bs = cs)) ∧ L' = []) := by
  refine callS Try.func11 rfl rfl (fun w0 => ?_)
  refine s_seq ?_
  refine s_region ?_
  refine o_val rfl rfl rfl (y_assign (v := (.bool _)) rfl) ?_
  refine o_nil ?_
  refine s_seq ?_
  refine s_seq ?_
  refine s_region ?_
  refine o_val rfl rfl rfl (y_move (v := (.slice _ _ _)) rfl) ?_
  refine o_val rfl rfl rfl (y_len Try.runUnderlying22 rfl) ?_
  refine o_val rfl rfl rfl (y_move (v := (.slice _ _ _)) rfl) ?_
  refine o_val rfl rfl rfl (y_len Try.runUnderlying22 rfl) ?_
  refine o_val rfl rfl rfl (y_neq rfl rfl) ?_
  refine o_nil ?_
  refine s_if rfl (fun h1 => ?_) (fun h2 => ?_)
  · refine s_seq ?_
    refine s_region ?_
    refine o_val rfl rfl rfl (y_assign (v := (.bool _)) rfl) ?_
    refine o_nil ?_
    refine s_ret ?_
    exact ⟨_, _, res1 rfl rfl, ⟨congrArg Value.bool (decide_eq_false (fun e => by subst e; omega)).symm, rfl⟩, sub_front ⟨_, rfl⟩⟩
  · refine s_skip ?_
    refine s_seq ?_
    refine s_seq ?_
    refine s_region ?_
    refine o_val rfl rfl rfl (y_move (v := (.slice _ _ _)) rfl) ?_
    refine o_val rfl rfl rfl (y_len Try.runUnderlying22 rfl) ?_
    refine o_val rfl rfl rfl (y_move (v := (.int _ _)) rfl) ?_
    refine o_nil ?_
    refine s_block ?_
    refine s_loop (γ := Nat) (fun g => [(0, .slice A n c), (1, .slice B m d), (12, .int .i64 n), (13, .int .i64 g)]) (fun g => []) (fun g => g ≤ n ∧ ∀ j, j < g → bs.getD j default = cs.getD j default) (fun g => n - g) (0) ?_ ⟨rfl, rfl, rfl, rfl, trivial⟩ (sub_front ⟨_, rfl⟩) ?_
    · exact ⟨Nat.zero_le _, fun j hj => absurd hj (Nat.not_lt_zero j)⟩
    · intro g _f hI
      obtain ⟨hg, hall⟩ := hI
      refine s_seq ?_
      refine s_region ?_
      refine o_val rfl rfl rfl (y_lss rfl rfl) ?_
      refine o_nil ?_
      refine s_seq ?_
      refine s_if rfl (fun h3 => ?_) (fun h4 => ?_)
      · refine s_skip ?_
        refine s_seq ?_
        refine s_block ?_
        refine s_seq ?_
        refine s_region ?_
        refine o_val rfl rfl rfl (y_move (v := (.int _ _)) rfl) ?_
        refine o_val rfl rfl rfl (y_assign (v := (.int _ _)) rfl) ?_
        refine o_nil ?_
        refine s_seq ?_
        refine s_quiet (by kernel_rfl) (by kernel_rfl) ?_
        refine q_val rfl rfl rfl (y_move (v := (.slice _ _ _)) rfl) ?_
        refine q_val rfl rfl rfl (y_move (v := (.int _ _)) rfl) ?_
        refine q_val rfl rfl rfl (y_index1 Try.runUnderlying22 Try.sizeOf3 (some_int (i := 0) h (by omega)) rfl rfl (by omega)) ?_
        refine q_val rfl rfl rfl (y_load Try.isAgg3 rfl (cel_int h.here (by omega))) ?_
        refine q_val rfl rfl rfl (y_move (v := (.slice _ _ _)) rfl) ?_
        refine q_val rfl rfl rfl (y_move (v := (.int _ _)) rfl) ?_
        refine q_val rfl rfl rfl (y_index1 Try.runUnderlying22 Try.sizeOf3 (some_int (i := 0) h' (by omega)) rfl rfl (by omega)) ?_
        refine q_val rfl rfl rfl (y_load Try.isAgg3 rfl (cel_int h'.here (by omega))) ?_
        refine q_val rfl rfl rfl (y_neq rfl rfl) ?_
        refine q_nil ?_
        refine s_if rfl (fun h5 => ?_) (fun h6 => ?_)
        · have hne := h5
          refine s_seq ?_
          refine s_region ?_
          refine o_val rfl rfl rfl (y_assign (v := (.bool _)) rfl) ?_
          refine o_nil ?_
          refine s_ret ?_
          exact ⟨_, _, res1 rfl rfl, ⟨congrArg Value.bool (decide_eq_false (fun e => by subst e; exact hne rfl)).symm, rfl⟩, sub_front ⟨_, rfl⟩⟩
        · have hne := h6
          refine s_skip ?_
          refine s_region ?_
          refine o_val rfl rfl rfl (y_add rfl rfl (by simp only [inK]; omega)) ?_
          refine o_val rfl rfl rfl (y_move (v := (.int _ _)) rfl) ?_
          refine o_nil ?_
          exact ⟨g + 1, (by first | omega | (dsimp only; omega)), ⟨by omega, eq_step hall (Decidable.not_not.1 hne)⟩, ⟨rfl, rfl, rfl, (congrArg (Value.int _) (by omega)), trivial⟩, sub_front ⟨_, rfl⟩⟩
      · refine s_exit ?_
        refine s_seq ?_
        refine s_region ?_
        refine o_val rfl rfl rfl (y_assign (v := (.bool _)) rfl) ?_
        refine o_nil ?_
        refine s_ret ?_
        exact ⟨_, _, res1 rfl rfl, ⟨congrArg Value.bool (decide_eq_true (list_ext_getD (by omega) (fun j hj => hall j (by omega)))).symm, rfl⟩, sub_front ⟨_, rfl⟩⟩

theorem CloneN_k0 (w : World) : (Instr.buildSlice 22 0 ([] : List (Nat × Value)).toArray).run Try.prog w = .ok (.slice (some ⟨w.heap.size, 0, none⟩) 0 0) { w with heap := w.heap.push (.cells ([] : List Value).toArray 3 (0, 0)) } := by kernel_rfl
theorem CloneN_c {V : Mem} (A : Option Addr) (n c : Nat) (bb : List Int) (h : Cels V [] A ((bb).map (.int .i64))) (hn : bb.length = n) (hb : n * 8 ≤ 140737488355328) : CallS Try.prog 76 [.slice A n c].toArray V []
    (fun r L' => ∃ B e G, r = .slice B n e ∧ OS B n e 3 1 ((bb).map (.int .i64)) G ∧ L' = [G]) := by
  refine callS Try.func76 rfl rfl (fun w0 => ?_)
  refine s_seq ?_
  refine s_region ?_
  refine o_val rfl rfl rfl (y_assign (v := (.slice _ _ _)) rfl) ?_
  refine o_nil ?_
  refine s_seq ?_
  refine s_seq ?_
  refine s_region ?_
  refine o_val rfl rfl rfl (y_move (v := (.slice _ _ _)) rfl) ?_
  refine o_val rfl rfl rfl (y_eql_nil Try.underlying22 rfl rfl) ?_
  refine o_nil ?_
  refine s_if rfl (fun h1 => ?_) (fun h2 => ?_)
  · subst h1
    have hbb := h.none_nil
    have hb0 : bb = [] := by simpa using hbb
    subst hb0
    obtain rfl : 0 = n := hn
    refine s_seq ?_
    refine s_region ?_
    refine o_val rfl rfl rfl (y_assign (v := (.slice _ _ _)) rfl) ?_
    refine o_nil ?_
    refine s_ret ?_
    exact ⟨_, [[]], res1 rfl rfl, ⟨_, _, [], rfl, OS.nil _ _, rfl⟩, sub_none⟩
  · refine s_skip ?_
    refine s_seq ?_
    refine s_region ?_
    refine o_lit (vs := []) rfl rfl (CloneN_k0) (fun b3 => ?_)
    refine o_val rfl rfl rfl (y_move (v := (.slice _ _ _)) rfl) ?_
    refine o_append (sz := 1) (bytes := 8) (news := (bb).map (.int .i64)) 0 rfl Try.underlying22 Try.type3 rfl rfl rfl rfl rfl (OS.lit (sz := 1) (n := 0) rfl (by decide)) rfl rfl (Src.rd (sz := 0) Try.underlying22 h.here (by simp [hn]) (one_int _ _)) (by omega) (fun A4 c5 E6 ho7 hn8 => ?_)
    have ho9 : OS A4 n c5 3 1 ((bb).map (.int .i64)) E6 := by simpa using ho7
    clear ho7
    refine o_val rfl rfl rfl (y_assign (v := (.slice _ _ _)) rfl) ?_
    refine o_nil ?_
    refine s_ret ?_
    exact ⟨_, _, res1 rfl rfl, ⟨_, _, _, congrArg (fun k => Value.slice _ k _) (Nat.zero_add _), ho9, rfl⟩, sub_front ⟨_, rfl⟩⟩

theorem in_fit {xs ys bs : List Int} {er : Int} (h : inOK xs ys bs er) (hx : xs.length ≤ 65536) (hy : ys.length ≤ 3000) : er = 0 := by
  rcases h with h | h
  · exact h.1
  · have := dAll_len (s1 := sumI xs) (s2 := sumI ys) (old := xs) (new := ys) (by omega)
    exact absurd ⟨hx, by omega, by omega⟩ h.2.2
theorem in_BG {xs ys bs : List Int} {er : Int} (h : inOK xs ys bs er) (he : er = 0) (hy : ∀ y ∈ ys, inK .i64 y) : BGood xs bs ys := by
  obtain ⟨h1, h2, h3, h4⟩ := in_zero h he
  exact ⟨h1, h2, hy, h4, h3⟩
theorem one_five : ∀ y ∈ ([1, 5] : List Int), inK .i64 y := by
  intro y hy
  simp at hy
  rcases hy with rfl | rfl <;> (simp only [inK]; omega)
theorem dAll_pos {s1 s2 : Int} {old new : List Int} (h : new.length < 18446744073709551616) : 133 ≤ (dAll s1 s2 old new).length := by
  have := (natB_bd h).1
  unfold dAll dHead
  simp only [List.length_append, bitsOf_len]; omega

theorem differsL_k0 (v0 : Int) (w : World) : (Instr.buildSlice 22 1 ([(0, (.int .i64 v0))] : List (Nat × Value)).toArray).run Try.prog w = .ok (.slice (some ⟨w.heap.size, 0, none⟩) 1 1) { w with heap := w.heap.push (.cells ([.int .i64 v0] : List Value).toArray 3 (0, 0)) } := by kernel_rfl
theorem differsL_k1 (v0 : Int) (v1 : Int) (w : World) : (Instr.buildSlice 22 2 ([(0, (.int .i64 v0)), (1, (.int .i64 v1))] : List (Nat × Value)).toArray).run Try.prog w = .ok (.slice (some ⟨w.heap.size, 0, none⟩) 2 2) { w with heap := w.heap.push (.cells ([.int .i64 v0, .int .i64 v1] : List Value).toArray 3 (0, 0)) } := by kernel_rfl
theorem differsL_c (V : Mem) : CallS Try.prog 9 ([] : List Value).toArray V [] (fun r L' => r = .bool true ∧ L' = []) := by
  refine callS Try.func9 rfl rfl (fun w0 => ?_)
  refine s_seq ?_
  refine s_region ?_
  refine o_val rfl rfl rfl (y_assign (v := (.bool _)) rfl) ?_
  refine o_nil ?_
  refine s_seq ?_
  refine s_region ?_
  refine o_lit (vs := [(0, .int _ _)]) rfl rfl (differsL_k0 _) (fun b1 => ?_)
  refine o_lit (vs := [(0, .int _ _), (1, .int _ _)]) rfl rfl (differsL_k1 _ _) (fun b2 => ?_)
  refine o_fn 0 (d := 8) rfl Try.call42 (Ints_c _ _ _ [1] (cels_own 0 rfl rfl).down rfl _ _ _ [1, 5] (cels_own 1 rfl rfl).down rfl) rfl ?_
  rintro _ _ ⟨iR, ik, ie, ibs, iG, ier, rfl, io, rfl, in_⟩
  have i0 : ier = 0 := in_fit in_ (by decide) (by decide)
  have hz := in_zero in_ i0
  have hW := hz.2.2.2
  have hW1 := hW.1
  have hil : ibs.length = ik := by simpa using io.len
  have hpos := dAll_pos (s1 := sumI [1]) (s2 := sumI [1, 5]) (old := [1]) (new := [1, 5]) (by decide)
  refine o_val rfl rfl rfl (y_move (v := (.tuple #[(.slice _ _ _), (.int _ _)])) rfl) ?_
  refine o_val rfl rfl rfl (y_extract (v := (.slice _ _ _)) rfl rfl) ?_
  refine o_val rfl rfl rfl (y_extract (v := (.int _ _)) rfl rfl) ?_
  refine o_val rfl rfl rfl (y_assign (v := (.slice _ _ _)) rfl) ?_
  refine o_val rfl rfl rfl (y_assign (v := (.int _ _)) rfl) ?_
  refine o_nil ?_
  refine s_seq ?_
  refine s_region ?_
  refine o_lit (vs := [(0, .int _ _)]) rfl rfl (differsL_k0 _) (fun b3 => ?_)
  refine o_val rfl rfl rfl (y_move (v := (.slice _ _ _)) rfl) ?_
  refine o_fn 0 (d := 14) rfl Try.call10 (Back_c _ _ _ [1] (cels_own 3 rfl rfl).down rfl _ _ _ ibs (io.cels (j := 0) rfl).down (by simpa using io.len) hW.2.1 (by omega)) rfl ?_
  rintro _ _ ⟨bR, bk, be, zs, bG, ber, rfl, bo, rfl, bn⟩
  refine o_val rfl rfl rfl (y_move (v := (.tuple #[(.slice _ _ _), (.int _ _)])) rfl) ?_
  refine o_val rfl rfl rfl (y_extract (v := (.slice _ _ _)) rfl rfl) ?_
  refine o_val rfl rfl rfl (y_extract (v := (.int _ _)) rfl rfl) ?_
  refine o_val rfl rfl rfl (y_assign (v := (.slice _ _ _)) rfl) ?_
  refine o_val rfl rfl rfl (y_assign (v := (.int _ _)) rfl) ?_
  refine o_nil ?_
  refine s_seq ?_
  refine s_region ?_
  have b0 := bn.2.2.1 [1, 5] (in_BG in_ i0 one_five)
  refine o_val rfl rfl rfl (y_move (v := (.int _ _)) rfl) ?_
  refine o_split rfl rfl rfl (y_eql rfl rfl) (fun p4 => ?_) (fun p5 => ?_)
  · refine o_val rfl rfl rfl (y_move (v := (.bool _)) rfl) ?_
    refine o_guard_yes rfl rfl ?_
    refine o_val rfl rfl rfl (y_move (v := (.int _ _)) rfl) ?_
    refine o_guard_yes rfl rfl ?_
    refine o_split rfl rfl rfl (y_eql rfl rfl) (fun p6 => ?_) (fun p7 => ?_)
    · refine o_val rfl rfl rfl (y_pick_t (v := (.bool _)) rfl rfl) ?_
      refine o_val rfl rfl rfl (y_move (v := (.bool _)) rfl) ?_
      refine o_guard_yes rfl rfl ?_
      refine o_val rfl rfl rfl (y_move (v := (.slice _ _ _)) rfl) ?_
      refine o_guard_yes rfl rfl ?_
      refine o_lit (vs := [(0, .int _ _), (1, .int _ _)]) rfl rfl (differsL_k1 _ _) (fun b8 => ?_)
      refine o_guard_yes rfl rfl ?_
      refine o_fn 0 (d := 26) rfl Try.call11 (EqN_c _ _ _ zs (bo.cels (j := 0) rfl).down (by simpa using bo.len) _ _ _ [1, 5] (cels_own 5 rfl rfl).down rfl (by have := bo.len; rw [b0.2] at this; simp at this; omega)) rfl ?_
      rintro _ _ ⟨rfl, rfl⟩
      refine o_val rfl rfl rfl (y_pick_t (v := (.bool _)) rfl rfl) ?_
      refine o_val rfl rfl rfl (y_assign (v := (.bool _)) rfl) ?_
      refine o_nil ?_
      refine s_ret ?_
      exact ⟨_, _, res1 rfl rfl, ⟨congrArg Value.bool (decide_eq_true b0.2), rfl⟩, sub_front ⟨_, rfl⟩⟩
    · exact absurd (b0.1) p7
  · exact absurd (i0) p5

theorem in_diff {xs ys bs : List Int} {er : Int} {q : Bool} (h : inOK xs ys bs er) (hq : q = true ↔ xs.length ≤ 65536 ∧ ys.length ≤ 65536 ∧ (dAll (sumI xs) (sumI ys) xs ys).length ≤ 524288) : (q = false → er = 2 ∧ bs = []) ∧ (q = true → er = 0 ∧ Wr bs (dAll (sumI xs) (sumI ys) xs ys)) := by
  rcases h with h | h
  · have : q = true := hq.2 ⟨h.2.1, h.2.2.1, h.2.2.2.1⟩
    exact ⟨fun e => by (rw [this] at e; cases e), fun _ => ⟨h.1, h.2.2.2.2⟩⟩
  · exact ⟨fun _ => ⟨h.1, h.2.1⟩, fun e => absurd (hq.1 e) h.2.2⟩

end Go.Proofs.Ytoigljcmpicgfaa.K
