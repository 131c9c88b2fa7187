/- Walks: the reader of bits, and one input read. No condition beyond what each statement names. -/
import Derived.Test.YtoigljcmpicgfaaProg
import Derived.Test.YtoigljcmpicgfaaK8
import Derived.Test.YtoigljcmpicgfaaB3
import Derived.Test.YtoigljcmpicgfaaI1
import Derived.Test.YtoigljcmpicgfaaI2
import Derived.Test.YtoigljcmpicgfaaI3
set_option linter.unusedVariables false
set_option linter.unusedSimpArgs false
set_option maxRecDepth 100000
namespace Go.Proofs.Ytoigljcmpicgfaa.K
open Go.RowKit

/-- A reader's block. -/
def rgrp (b : Nat) (A : Option Addr) (n c p : Nat) : Grp := [(b, .cells [.slice A n c, .int .i64 p].toArray 158 (0, 0))]
/-- A block that holds a number of a fault. -/
def egrp (b : Nat) (e : Int) : Grp := [(b, .cells [.int .i64 e].toArray 27 (0, 0))]
/-- A block that holds a pointer to a reader. -/
def prgrp (b r : Nat) : Grp := [(b, .cells [.pointer (some ⟨r, 0, none⟩)].toArray 96 (0, 0))]

theorem Left_c {V : Mem} (rb : Nat) (A : Option Addr) (n c p : Nat) (bs : List Int) (h : Cels V [] A (bs.map (.int .u8))) (hn : bs.length = n) (hbd : ∀ b ∈ bs, 0 ≤ b ∧ b ≤ 255) (hp : p ≤ 8 * n) (hsz : n ≤ 140737488355328) : CallS Try.prog 72 [.pointer (some ⟨rb, 0, none⟩)].toArray V [rgrp rb A n c p] (fun r L' => r = .int .i64 (8 * (n : Int) - (p : Int)) ∧ L' = [rgrp rb A n c p]) := by
  refine callS Try.func72 rfl rfl (fun w0 => ?_)
  refine s_seq ?_
  refine s_region ?_
  refine o_val rfl rfl rfl (y_assign (v := (.int _ _)) rfl) ?_
  refine o_nil ?_
  refine s_seq ?_
  refine s_quiet (by kernel_rfl) (by kernel_rfl) ?_
  refine q_val rfl rfl rfl (y_move (v := (.pointer _)) rfl) ?_
  refine q_val rfl rfl rfl (y_nilCheck rfl) ?_
  refine q_val rfl rfl rfl (y_field0 Try.runUnderlying158 rfl Try.sizeOf23 rfl rfl) ?_
  refine q_val rfl rfl rfl (y_load Try.isAgg23 rfl (cel_own 0 rfl rfl)) ?_
  refine q_val rfl rfl rfl (y_len Try.runUnderlying23 rfl) ?_
  refine q_val rfl rfl rfl (y_mul rfl rfl (by simp only [inK]; omega)) ?_
  refine q_val rfl rfl rfl (y_move (v := (.pointer _)) rfl) ?_
  refine q_val rfl rfl rfl (y_nilCheck rfl) ?_
  refine q_val rfl rfl rfl (y_field0 Try.runUnderlying158 rfl Try.sizeOf3 rfl rfl) ?_
  refine q_val rfl rfl rfl (y_load Try.isAgg3 rfl (cel_own 0 rfl rfl)) ?_
  refine q_val rfl rfl rfl (y_sub rfl rfl (by simp only [inK]; omega)) ?_
  refine q_val rfl rfl rfl (y_assign (v := (.int _ _)) rfl) ?_
  refine q_nil ?_
  refine s_ret ?_
  exact ⟨_, _, res1 rfl rfl, ⟨rfl, rfl⟩, sub_front ⟨_, rfl⟩⟩

theorem Get_c {V : Mem} (rb : Nat) (A : Option Addr) (n c p : Nat) (bs : List Int) (h : Cels V [] A (bs.map (.int .u8))) (hn : bs.length = n) (hbd : ∀ b ∈ bs, 0 ≤ b ∧ b ≤ 255) (hp : p ≤ 8 * n) (hsz : n ≤ 140737488355328) (m : Nat) (hm : m ≤ 64) : CallS Try.prog 44 [.pointer (some ⟨rb, 0, none⟩), .int .i64 m].toArray V [rgrp rb A n c p] (fun r L' => r = .tuple #[.int .u64 (gv bs (8 * n) p m), .int .i64 (ge (8 * n) p m)] ∧ L' = [rgrp rb A n c (gp (8 * n) p m)]) := by
  refine callS Try.func44 rfl rfl (fun w0 => ?_)
  refine s_seq ?_
  refine s_region ?_
  refine o_val rfl rfl rfl (y_assign (v := (.int _ _)) rfl) ?_
  refine o_val rfl rfl rfl (y_assign (v := (.int _ _)) rfl) ?_
  refine o_nil ?_
  refine s_seq ?_
  refine s_seq ?_
  refine s_region ?_
  refine o_val rfl rfl rfl (y_move (v := (.int _ _)) rfl) ?_
  refine o_split rfl rfl rfl (y_lss rfl rfl) (fun p1 => ?_) (fun p2 => ?_)
  · exfalso; omega
  · refine o_val rfl rfl rfl (y_move (v := (.bool _)) rfl) ?_
    refine o_guard_yes rfl rfl ?_
    refine o_val rfl rfl rfl (y_move (v := (.int _ _)) rfl) ?_
    refine o_guard_yes rfl rfl ?_
    refine o_val rfl rfl rfl (y_gtr rfl rfl) ?_
    refine o_val rfl rfl rfl (y_pick_f (v := (.bool _)) rfl rfl) ?_
    refine o_nil ?_
    refine s_if rfl (fun h3 => ?_) (fun h4 => ?_)
    · exfalso; omega
    · refine s_skip ?_
      refine s_seq ?_
      refine s_seq ?_
      refine s_region ?_
      refine o_val rfl rfl rfl (y_move (v := (.int _ _)) rfl) ?_
      refine o_val rfl rfl rfl (y_move (v := (.pointer _)) rfl) ?_
      refine o_fn 1 (d := 16) rfl Try.call72 (Left_c _ A n c p bs h.here.down hn hbd hp hsz) rfl ?_
      rintro _ _ ⟨rfl, rfl⟩
      refine o_val rfl rfl rfl (y_gtr rfl rfl) ?_
      refine o_nil ?_
      refine s_if rfl (fun h5 => ?_) (fun h6 => ?_)
      · have hlt : 8 * n < p + m := by omega
        refine s_seq ?_
        refine s_region ?_
        refine o_val rfl rfl rfl (y_assign (v := (.int _ _)) rfl) ?_
        refine o_val rfl rfl rfl (y_assign (v := (.int _ _)) rfl) ?_
        refine o_nil ?_
        refine s_ret ?_
        exact ⟨_, _, res2 rfl rfl rfl, ⟨by unfold gv ge; rw [if_pos hlt, if_pos hlt]; rfl, by unfold gp; rw [if_pos hlt]⟩, sub_front ⟨_, rfl⟩⟩
      · have hge : ¬ 8 * n < p + m := by omega
        refine s_skip ?_
        refine s_seq ?_
        refine s_region ?_
        refine o_val rfl rfl rfl (y_assign (v := (.int _ _)) rfl) ?_
        refine o_nil ?_
        refine s_seq ?_
        refine s_seq ?_
        refine s_region ?_
        refine o_val rfl rfl rfl (y_move (v := (.int _ _)) rfl) ?_
        refine o_val rfl rfl rfl (y_move (v := (.int _ _)) rfl) ?_
        refine o_nil ?_
        refine s_block ?_
        refine s_loop (γ := Nat) (fun g => [(0, .pointer (some ⟨rb, 0, none⟩)), (6, .int .u64 (num bs p g : Nat)), (18, .int .i64 m), (19, .int .i64 g)]) (fun g => [rgrp rb A n c (p + g)]) (fun g => g ≤ m) (fun g => m - g) (0) ?_ ⟨rfl, rfl, rfl, rfl, trivial⟩ (sub_front ⟨_, rfl⟩) ?_
        · exact Nat.zero_le _
        · intro g _f hI
          refine s_seq ?_
          refine s_region ?_
          refine o_val rfl rfl rfl (y_lss rfl rfl) ?_
          refine o_nil ?_
          refine s_seq ?_
          refine s_if rfl (fun h7 => ?_) (fun h8 => ?_)
          · refine s_skip ?_
            refine s_seq ?_
            refine s_block ?_
            refine s_seq ?_
            refine s_region ?_
            refine o_val rfl rfl rfl (y_move (v := (.int _ _)) rfl) ?_
            refine o_val rfl rfl rfl (y_assign (v := (.int _ _)) rfl) ?_
            refine o_nil ?_
            refine s_seq ?_
            refine s_quiet (by kernel_rfl) (by kernel_rfl) ?_
            refine q_val rfl rfl rfl (y_move (v := (.int _ _)) rfl) ?_
            refine q_val rfl rfl rfl (y_move (v := (.pointer _)) rfl) ?_
            refine q_val rfl rfl rfl (y_nilCheck rfl) ?_
            refine q_val rfl rfl rfl (y_field0 Try.runUnderlying158 rfl Try.sizeOf23 rfl rfl) ?_
            refine q_val rfl rfl rfl (y_load Try.isAgg23 rfl (cel_own 0 rfl rfl)) ?_
            refine q_val rfl rfl rfl (y_move (v := (.pointer _)) rfl) ?_
            refine q_val rfl rfl rfl (y_nilCheck rfl) ?_
            refine q_val rfl rfl rfl (y_field0 Try.runUnderlying158 rfl Try.sizeOf3 rfl rfl) ?_
            refine q_val rfl rfl rfl (y_load Try.isAgg3 rfl (cel_own 0 rfl rfl)) ?_
            refine q_val rfl rfl rfl (y_quo rfl rfl (by simp only [inK]; omega)) ?_
            refine q_val rfl rfl rfl (y_index1 Try.runUnderlying23 Try.sizeOf5 (some_int (i := 0) h (by omega)) rfl rfl (by omega)) ?_
            refine q_val rfl rfl rfl (y_load Try.isAgg5 rfl (cel_int h.here (by omega))) ?_
            refine q_val rfl rfl rfl (y_move (v := (.pointer _)) rfl) ?_
            refine q_val rfl rfl rfl (y_nilCheck rfl) ?_
            refine q_val rfl rfl rfl (y_field0 Try.runUnderlying158 rfl Try.sizeOf3 rfl rfl) ?_
            refine q_val rfl rfl rfl (y_load Try.isAgg3 rfl (cel_own 0 rfl rfl)) ?_
            refine q_val rfl rfl rfl (y_rem rfl rfl (by omega)) ?_
            refine q_val rfl rfl rfl (y_shr rfl rfl (by omega)) ?_
            refine q_val rfl rfl rfl (y_and rfl rfl) ?_
            refine q_val rfl rfl rfl (y_conv Try.runUnderlying5 Try.runUnderlying53 rfl (by exact bit_q_in hbd (p + g))) ?_
            refine q_val rfl rfl rfl (y_move (v := (.int _ _)) rfl) ?_
            refine q_val rfl rfl rfl (y_shl rfl rfl (by omega)) ?_
            refine q_val rfl rfl rfl (y_or rfl rfl) ?_
            refine q_val rfl rfl rfl (y_assign (v := (.int _ _)) rfl) ?_
            refine q_nil ?_
            refine s_region ?_
            refine o_val rfl rfl rfl (y_move (v := (.pointer _)) rfl) ?_
            refine o_val rfl rfl rfl (y_nilCheck rfl) ?_
            refine o_val rfl rfl rfl (y_field0 Try.runUnderlying158 rfl Try.sizeOf3 rfl rfl) ?_
            refine o_val rfl rfl rfl (y_load Try.isAgg3 rfl (cel_own 0 rfl rfl)) ?_
            refine o_val rfl rfl rfl (y_add rfl rfl (by simp only [inK]; omega)) ?_
            refine o_val rfl rfl rfl (y_nilCheck rfl) ?_
            refine o_val rfl rfl rfl (y_field0 Try.runUnderlying158 rfl Try.sizeOf3 rfl rfl) ?_
            refine o_store (v := (.int _ _)) 0 rfl Try.sizeOf3 rfl rfl rfl rfl ?_
            refine o_nil ?_
            refine s_region ?_
            refine o_val rfl rfl rfl (y_add rfl rfl (by simp only [inK]; omega)) ?_
            refine o_val rfl rfl rfl (y_move (v := (.int _ _)) rfl) ?_
            refine o_nil ?_
            exact ⟨g + 1, (by first | omega | (dsimp only; omega)), (show g + 1 ≤ m by omega), ⟨rfl, (congrArg (Value.int .u64) (get_step hbd (by omega))), rfl, (congrArg (Value.int _) (by omega)), trivial⟩, sub_front ⟨_, rfl⟩⟩
          · refine s_exit ?_
            refine s_seq ?_
            refine s_region ?_
            refine o_val rfl rfl rfl (y_move (v := (.int _ _)) rfl) ?_
            refine o_val rfl rfl rfl (y_assign (v := (.int _ _)) rfl) ?_
            refine o_val rfl rfl rfl (y_assign (v := (.int _ _)) rfl) ?_
            refine o_nil ?_
            refine s_ret ?_
            obtain rfl : g = m := by omega
            exact ⟨_, [_], res2 rfl rfl rfl, ⟨by unfold gv ge; rw [if_neg hge, if_neg hge]; rfl, by unfold gp; rw [if_neg hge]⟩, sub_front ⟨_, rfl⟩⟩

end Go.Proofs.Ytoigljcmpicgfaa.K
