/- Walks: the reader of bits, and one input read. No condition beyond what each statement names. -/
import Derived.Test.YtppciokaldmipaaProg
import Derived.Test.YtppciokaldmipaaK8
import Derived.Test.YtppciokaldmipaaB3
import Derived.Test.YtppciokaldmipaaI1
import Derived.Test.YtppciokaldmipaaI2
import Derived.Test.YtppciokaldmipaaI3
set_option linter.unusedVariables false
set_option linter.unusedSimpArgs false
set_option maxRecDepth 100000
namespace Go.Proofs.Ytppciokaldmipaa.K
open Go.RowKit

/-- A reader's block. -/
def rgrp (b : Nat) (A : Option Addr) (n c p : Nat) : Grp := [(b, .cells [.slice A n c, .int .i64 p].toArray 169 (0, 0))]
/-- A block that holds a number of a fault. -/
def egrp (b : Nat) (e : Int) : Grp := [(b, .cells [.int .i64 e].toArray 25 (0, 0))]
/-- A block that holds a pointer to a reader. -/
def prgrp (b r : Nat) : Grp := [(b, .cells [.pointer (some ⟨r, 0, none⟩)].toArray 129 (0, 0))]

theorem Left_c {V : Mem} (rb : Nat) (A : Option Addr) (n c p : Nat) (bs : List Int) (h : Cels V [] A (bs.map (.int .u8))) (hn : bs.length = n) (hbd : ∀ b ∈ bs, 0 ≤ b ∧ b ≤ 255) (hp : p ≤ 8 * n) (hsz : n ≤ 140737488355328) : CallS Try.prog 112 [.pointer (some ⟨rb, 0, none⟩)].toArray V [rgrp rb A n c p] (fun r L' => r = .int .i64 (8 * (n : Int) - (p : Int)) ∧ L' = [rgrp rb A n c p]) := by
  refine callS Try.func112 rfl rfl (fun w0 => ?_)
  refine s_seq ?_
  refine s_region ?_
  refine o_val rfl rfl rfl (y_assign (v := (.int _ _)) rfl) ?_
  refine o_nil ?_
  refine s_seq ?_
  refine s_quiet (by kernel_rfl) (by kernel_rfl) ?_
  refine q_val rfl rfl rfl (y_move (v := (.pointer _)) rfl) ?_
  refine q_val rfl rfl rfl (y_nilCheck rfl) ?_
  refine q_val rfl rfl rfl (y_field0 Try.runUnderlying169 rfl Try.sizeOf30 rfl rfl) ?_
  refine q_val rfl rfl rfl (y_load Try.isAgg30 rfl (cel_own 0 rfl rfl)) ?_
  refine q_val rfl rfl rfl (y_len Try.runUnderlying30 rfl) ?_
  refine q_val rfl rfl rfl (y_mul rfl rfl (by simp only [inK]; omega)) ?_
  refine q_val rfl rfl rfl (y_move (v := (.pointer _)) rfl) ?_
  refine q_val rfl rfl rfl (y_nilCheck rfl) ?_
  refine q_val rfl rfl rfl (y_field0 Try.runUnderlying169 rfl Try.sizeOf3 rfl rfl) ?_
  refine q_val rfl rfl rfl (y_load Try.isAgg3 rfl (cel_own 0 rfl rfl)) ?_
  refine q_val rfl rfl rfl (y_sub rfl rfl (by simp only [inK]; omega)) ?_
  refine q_val rfl rfl rfl (y_assign (v := (.int _ _)) rfl) ?_
  refine q_nil ?_
  refine s_ret ?_
  exact ⟨_, _, res1 rfl rfl, ⟨rfl, rfl⟩, sub_front ⟨_, rfl⟩⟩

theorem Get_c {V : Mem} (rb : Nat) (A : Option Addr) (n c p : Nat) (bs : List Int) (h : Cels V [] A (bs.map (.int .u8))) (hn : bs.length = n) (hbd : ∀ b ∈ bs, 0 ≤ b ∧ b ≤ 255) (hp : p ≤ 8 * n) (hsz : n ≤ 140737488355328) (m : Nat) (hm : m ≤ 64) : CallS Try.prog 95 [.pointer (some ⟨rb, 0, none⟩), .int .i64 m].toArray V [rgrp rb A n c p] (fun r L' => r = .tuple #[.int .u64 (gv bs (8 * n) p m), .int .i64 (ge (8 * n) p m)] ∧ L' = [rgrp rb A n c (gp (8 * n) p m)]) := by
  refine callS Try.func95 rfl rfl (fun w0 => ?_)
  refine s_seq ?_
  refine s_region ?_
  refine o_val rfl rfl rfl (y_assign (v := (.int _ _)) rfl) ?_
  refine o_val rfl rfl rfl (y_assign (v := (.int _ _)) rfl) ?_
  refine o_nil ?_
  refine s_seq ?_
  refine s_seq ?_
  refine s_region ?_
  refine o_val rfl rfl rfl (y_move (v := (.int _ _)) rfl) ?_
  refine o_split rfl rfl rfl (y_lss rfl rfl) (fun p1 => ?_) (fun p2 => ?_)
  · exfalso; omega
  · refine o_val rfl rfl rfl (y_move (v := (.bool _)) rfl) ?_
    refine o_guard_yes rfl rfl ?_
    refine o_val rfl rfl rfl (y_move (v := (.int _ _)) rfl) ?_
    refine o_guard_yes rfl rfl ?_
    refine o_val rfl rfl rfl (y_gtr rfl rfl) ?_
    refine o_val rfl rfl rfl (y_pick_f (v := (.bool _)) rfl rfl) ?_
    refine o_nil ?_
    refine s_if rfl (fun h3 => ?_) (fun h4 => ?_)
    · exfalso; omega
    · refine s_skip ?_
      refine s_seq ?_
      refine s_seq ?_
      refine s_region ?_
      refine o_val rfl rfl rfl (y_move (v := (.int _ _)) rfl) ?_
      refine o_val rfl rfl rfl (y_move (v := (.pointer _)) rfl) ?_
      refine o_fn 1 (d := 16) rfl Try.call112 (Left_c _ A n c p bs h.here.down hn hbd hp hsz) rfl ?_
      rintro _ _ ⟨rfl, rfl⟩
      refine o_val rfl rfl rfl (y_gtr rfl rfl) ?_
      refine o_nil ?_
      refine s_if rfl (fun h5 => ?_) (fun h6 => ?_)
      · have hlt : 8 * n < p + m := by omega
        refine s_seq ?_
        refine s_region ?_
        refine o_val rfl rfl rfl (y_assign (v := (.int _ _)) rfl) ?_
        refine o_val rfl rfl rfl (y_assign (v := (.int _ _)) rfl) ?_
        refine o_nil ?_
        refine s_ret ?_
        exact ⟨_, _, res2 rfl rfl rfl, ⟨by unfold gv ge; rw [if_pos hlt, if_pos hlt]; rfl, by unfold gp; rw [if_pos hlt]⟩, sub_front ⟨_, rfl⟩⟩
      · have hge : ¬ 8 * n < p + m := by omega
        refine s_skip ?_
        refine s_seq ?_
        refine s_region ?_
        refine o_val rfl rfl rfl (y_assign (v := (.int _ _)) rfl) ?_
        refine o_nil ?_
        refine s_seq ?_
        refine s_seq ?_
        refine s_region ?_
        refine o_val rfl rfl rfl (y_move (v := (.int _ _)) rfl) ?_
        refine o_val rfl rfl rfl (y_move (v := (.int _ _)) rfl) ?_
        refine o_nil ?_
        refine s_block ?_
        refine s_loop (γ := Nat) (fun g => [(0, .pointer (some ⟨rb, 0, none⟩)), (6, .int .u64 (num bs p g : Nat)), (18, .int .i64 m), (19, .int .i64 g)]) (fun g => [rgrp rb A n c (p + g)]) (fun g => g ≤ m) (fun g => m - g) (0) ?_ ⟨rfl, rfl, rfl, rfl, trivial⟩ (sub_front ⟨_, rfl⟩) ?_
        · exact Nat.zero_le _
        · intro g _f hI
          refine s_seq ?_
          refine s_region ?_
          refine o_val rfl rfl rfl (y_lss rfl rfl) ?_
          refine o_nil ?_
          refine s_seq ?_
          refine s_if rfl (fun h7 => ?_) (fun h8 => ?_)
          · refine s_skip ?_
            refine s_seq ?_
            refine s_block ?_
            refine s_seq ?_
            refine s_region ?_
            refine o_val rfl rfl rfl (y_move (v := (.int _ _)) rfl) ?_
            refine o_val rfl rfl rfl (y_assign (v := (.int _ _)) rfl) ?_
            refine o_nil ?_
            refine s_seq ?_
            refine s_quiet (by kernel_rfl) (by kernel_rfl) ?_
            refine q_val rfl rfl rfl (y_move (v := (.int _ _)) rfl) ?_
            refine q_val rfl rfl rfl (y_move (v := (.pointer _)) rfl) ?_
            refine q_val rfl rfl rfl (y_nilCheck rfl) ?_
            refine q_val rfl rfl rfl (y_field0 Try.runUnderlying169 rfl Try.sizeOf30 rfl rfl) ?_
            refine q_val rfl rfl rfl (y_load Try.isAgg30 rfl (cel_own 0 rfl rfl)) ?_
            refine q_val rfl rfl rfl (y_move (v := (.pointer _)) rfl) ?_
            refine q_val rfl rfl rfl (y_nilCheck rfl) ?_
            refine q_val rfl rfl rfl (y_field0 Try.runUnderlying169 rfl Try.sizeOf3 rfl rfl) ?_
            refine q_val rfl rfl rfl (y_load Try.isAgg3 rfl (cel_own 0 rfl rfl)) ?_
            refine q_val rfl rfl rfl (y_quo rfl rfl (by simp only [inK]; omega)) ?_
            refine q_val rfl rfl rfl (y_index1 Try.runUnderlying30 Try.sizeOf5 (some_int (i := 0) h (by omega)) rfl rfl (by omega)) ?_
            refine q_val rfl rfl rfl (y_load Try.isAgg5 rfl (cel_int h.here (by omega))) ?_
            refine q_val rfl rfl rfl (y_move (v := (.pointer _)) rfl) ?_
            refine q_val rfl rfl rfl (y_nilCheck rfl) ?_
            refine q_val rfl rfl rfl (y_field0 Try.runUnderlying169 rfl Try.sizeOf3 rfl rfl) ?_
            refine q_val rfl rfl rfl (y_load Try.isAgg3 rfl (cel_own 0 rfl rfl)) ?_
            refine q_val rfl rfl rfl (y_rem rfl rfl (by omega)) ?_
            refine q_val rfl rfl rfl (y_shr rfl rfl (by omega)) ?_
            refine q_val rfl rfl rfl (y_and rfl rfl) ?_
            refine q_val rfl rfl rfl (y_conv Try.runUnderlying5 Try.runUnderlying107 rfl (by exact bit_q_in hbd (p + g))) ?_
            refine q_val rfl rfl rfl (y_move (v := (.int _ _)) rfl) ?_
            refine q_val rfl rfl rfl (y_shl rfl rfl (by omega)) ?_
            refine q_val rfl rfl rfl (y_or rfl rfl) ?_
            refine q_val rfl rfl rfl (y_assign (v := (.int _ _)) rfl) ?_
            refine q_nil ?_
            refine s_region ?_
            refine o_val rfl rfl rfl (y_move (v := (.pointer _)) rfl) ?_
            refine o_val rfl rfl rfl (y_nilCheck rfl) ?_
            refine o_val rfl rfl rfl (y_field0 Try.runUnderlying169 rfl Try.sizeOf3 rfl rfl) ?_
            refine o_val rfl rfl rfl (y_load Try.isAgg3 rfl (cel_own 0 rfl rfl)) ?_
            refine o_val rfl rfl rfl (y_add rfl rfl (by simp only [inK]; omega)) ?_
            refine o_val rfl rfl rfl (y_nilCheck rfl) ?_
            refine o_val rfl rfl rfl (y_field0 Try.runUnderlying169 rfl Try.sizeOf3 rfl rfl) ?_
            refine o_store (v := (.int _ _)) 0 rfl Try.sizeOf3 rfl rfl rfl rfl ?_
            refine o_nil ?_
            refine s_region ?_
            refine o_val rfl rfl rfl (y_add rfl rfl (by simp only [inK]; omega)) ?_
            refine o_val rfl rfl rfl (y_move (v := (.int _ _)) rfl) ?_
            refine o_nil ?_
            exact ⟨g + 1, (by first | omega | (dsimp only; omega)), (show g + 1 ≤ m by omega), ⟨rfl, (congrArg (Value.int .u64) (get_step hbd (by omega))), rfl, (congrArg (Value.int _) (by omega)), trivial⟩, sub_front ⟨_, rfl⟩⟩
          · refine s_exit ?_
            refine s_seq ?_
            refine s_region ?_
            refine o_val rfl rfl rfl (y_move (v := (.int _ _)) rfl) ?_
            refine o_val rfl rfl rfl (y_assign (v := (.int _ _)) rfl) ?_
            refine o_val rfl rfl rfl (y_assign (v := (.int _ _)) rfl) ?_
            refine o_nil ?_
            refine s_ret ?_
            obtain rfl : g = m := by omega
            exact ⟨_, [_], res2 rfl rfl rfl, ⟨by unfold gv ge; rw [if_neg hge, if_neg hge]; rfl, by unfold gp; rw [if_neg hge]⟩, sub_front ⟨_, rfl⟩⟩

theorem oneGet_c {V : Mem} (rb : Nat) (A : Option Addr) (n c p : Nat) (bs : List Int) (h : Cels V [] A (bs.map (.int .u8))) (hn : bs.length = n) (hbd : ∀ b ∈ bs, 0 ≤ b ∧ b ≤ 255) (hp : p ≤ 8 * n) (hsz : n ≤ 140737488355328) (eb cb : Nat) (er : Int) (m : Nat) (hm : m ≤ 8) : CallS Try.prog 106 [.int .i64 m, .pointer (some ⟨eb, 0, none⟩), .pointer (some ⟨cb, 0, none⟩)].toArray V [rgrp rb A n c p, egrp eb er, prgrp cb rb] (fun r L' => r = .int .i64 (gv bs (8 * n) p m) ∧ L' = [rgrp rb A n c (gp (8 * n) p m), egrp eb (eu er (ge (8 * n) p m)), prgrp cb rb]) := by
  have hgb := gv_bd (bs := bs) (N := 8 * n) (p := p) (m := m)
  have h28 : (2 : Int) ^ m ≤ 256 := by
    have := Nat.pow_le_pow_right (show 0 < 2 by omega) hm
    exact_mod_cast this
  refine callS Try.func106 rfl rfl (fun w0 => ?_)
  refine s_seq ?_
  refine s_region ?_
  refine o_val rfl rfl rfl (y_assign (v := (.int _ _)) rfl) ?_
  refine o_nil ?_
  refine s_seq ?_
  refine s_region ?_
  refine o_val rfl rfl rfl (y_load Try.isAgg129 rfl (cel_own 2 rfl rfl)) ?_
  refine o_val rfl rfl rfl (y_move (v := (.int _ _)) rfl) ?_
  refine o_fn 1 (d := 11) rfl Try.call95 (Get_c _ A n c p bs h.here.down hn hbd hp hsz m (by omega)) rfl ?_
  rintro _ _ ⟨rfl, rfl⟩
  refine o_val rfl rfl rfl (y_move (v := (.tuple #[(.int _ _), (.int _ _)])) rfl) ?_
  refine o_val rfl rfl rfl (y_extract (v := (.int _ _)) rfl rfl) ?_
  refine o_val rfl rfl rfl (y_extract (v := (.int _ _)) rfl rfl) ?_
  refine o_val rfl rfl rfl (y_assign (v := (.int _ _)) rfl) ?_
  refine o_val rfl rfl rfl (y_assign (v := (.int _ _)) rfl) ?_
  refine o_nil ?_
  refine s_seq ?_
  refine s_seq ?_
  refine s_region ?_
  refine o_val rfl rfl rfl (y_move (v := (.pointer _)) rfl) ?_
  refine o_val rfl rfl rfl (y_nilCheck rfl) ?_
  refine o_val rfl rfl rfl (y_load Try.isAgg25 rfl (cel_own 1 rfl rfl)) ?_
  refine o_val rfl rfl rfl (y_eql rfl rfl) ?_
  refine o_nil ?_
  refine s_if rfl (fun h1 => ?_) (fun h2 => ?_)
  · refine s_region ?_
    refine o_val rfl rfl rfl (y_move (v := (.pointer _)) rfl) ?_
    refine o_val rfl rfl rfl (y_move (v := (.int _ _)) rfl) ?_
    refine o_val rfl rfl rfl (y_nilCheck rfl) ?_
    refine o_store (v := (.int _ _)) 1 rfl Try.sizeOf25 rfl rfl rfl rfl ?_
    refine o_nil ?_
    refine s_seq ?_
    refine s_region ?_
    refine o_val rfl rfl rfl (y_move (v := (.int _ _)) rfl) ?_
    refine o_val rfl rfl rfl (y_conv Try.runUnderlying107 Try.runUnderlying3 rfl (by simp only [inK]; omega)) ?_
    refine o_val rfl rfl rfl (y_assign (v := (.int _ _)) rfl) ?_
    refine o_nil ?_
    refine s_ret ?_
    exact ⟨_, [_, _, _], res1 rfl rfl, ⟨rfl, by unfold eu; rw [if_pos (by assumption)]; rfl⟩, sub_front ⟨_, rfl⟩⟩
  · refine s_skip ?_
    refine s_seq ?_
    refine s_region ?_
    refine o_val rfl rfl rfl (y_move (v := (.int _ _)) rfl) ?_
    refine o_val rfl rfl rfl (y_conv Try.runUnderlying107 Try.runUnderlying3 rfl (by simp only [inK]; omega)) ?_
    refine o_val rfl rfl rfl (y_assign (v := (.int _ _)) rfl) ?_
    refine o_nil ?_
    refine s_ret ?_
    exact ⟨_, [_, _, _], res1 rfl rfl, ⟨rfl, by unfold eu; rw [if_neg (by assumption)]⟩, sub_front ⟨_, rfl⟩⟩

theorem one_k0 (v0 : Int) (v1 : Int) (v2 : Int) (w : World) : (Instr.build 24 ([(0, (.int .i64 v0)), (1, (.int .i64 v1)), (2, (.int .i64 v2))] : List (Nat × Value)).toArray).run Try.prog w = .ok (.agg #[.int .i64 v0, .int .i64 v1, .int .i64 v2]) w := by kernel_rfl
theorem one_c {V : Mem} (rb : Nat) (A : Option Addr) (n c p : Nat) (bs : List Int) (h : Cels V [] A (bs.map (.int .u8))) (hn : bs.length = n) (hbd : ∀ b ∈ bs, 0 ≤ b ∧ b ≤ 255) (hp : p ≤ 8 * n) (hsz : n ≤ 140737488355328) (y : Inp) (hy : y.ok) : CallS Try.prog 79 [.pointer (some ⟨rb, 0, none⟩), .agg #[.int .i64 y.k, .int .i64 y.x, .int .i64 y.y]].toArray V [rgrp rb A n c p] (fun r L' => ∃ x er p', r = .tuple #[.agg #[.int .i64 x.k, .int .i64 x.x, .int .i64 x.y], .int .i64 er] ∧ oneOK bs (8 * n) p y x er p' ∧ L' = [rgrp rb A n c p']) := by
  refine callS Try.func79 rfl rfl (fun w0 => ?_)
  refine s_seq ?_
  refine s_region ?_
  refine o_box (v := (.pointer _)) rfl rfl rfl (fun b1 => ?_)
  refine o_box (v := (.agg #[(.int _ _), (.int _ _), (.int _ _)])) rfl rfl rfl (fun b2 => ?_)
  refine o_alloc rfl Try.zeroValue24 rfl (fun b3 => ?_)
  refine o_val rfl rfl rfl (y_assign (v := (.int _ _)) rfl) ?_
  refine o_nil ?_
  refine s_seq ?_
  refine s_region ?_
  refine o_val rfl rfl rfl (y_func' (xs := []) (a := []) (b := [(.pointer _)]) rfl rfl) ?_
  refine o_val rfl rfl rfl (y_assign (v := (.func _ _ _)) rfl) ?_
  refine o_nil ?_
  refine s_seq ?_
  refine s_region ?_
  refine o_alloc rfl Try.zeroValue25 rfl (fun b4 => ?_)
  refine o_store (v := (.int _ _)) 4 rfl Try.sizeOf25 rfl rfl rfl rfl ?_
  refine o_nil ?_
  refine s_seq ?_
  refine s_seq ?_
  refine s_region ?_
  refine o_val rfl rfl rfl (y_move (v := (.func _ _ _)) rfl) ?_
  refine o_pull 1 ?_
  refine o_pull 4 ?_
  refine o_pull 2 ?_
  refine o_fnv' 3 (d := 11) rfl Try.call106 rfl rfl rfl (oneGet_c _ A n c p bs h.here.down hn hbd hp hsz _ _ 0 1 (by omega)) ?_
  rintro _ _ ⟨rfl, rfl⟩
  refine o_split rfl rfl rfl (y_eql rfl rfl) (fun p5 => ?_) (fun p6 => ?_)
  · have h1 := p5
    refine o_val rfl rfl rfl (y_move (v := (.bool _)) rfl) ?_
    refine o_guard_no rfl rfl rfl rfl rfl ?_
    refine o_guard_no rfl rfl rfl rfl rfl ?_
    refine o_val rfl rfl rfl (y_pick_t (v := (.bool _)) rfl rfl) ?_
    refine o_nil ?_
    refine s_then rfl ?_
    refine s_seq ?_
    refine s_pull 4 ?_
    refine s_drawn 1 (by kernel_rfl) ?_
    refine d_val (i := 0) rfl (by kernel_rfl) (by kernel_rfl) (by kernel_rfl) rfl rfl rfl (y_loads (cs := [_, _, _]) Try.isAgg24 Try.sizeOf24 rfl rfl rfl (cels_own 3 rfl rfl)) ?_
    refine d_val (i := 1) rfl (by kernel_rfl) (by kernel_rfl) (by kernel_rfl) rfl rfl rfl (y_load Try.isAgg25 rfl (cel_own 1 rfl rfl)) ?_
    refine d_eff (k := 2) (n := 1) (m := 4) rfl (by kernel_rfl) rfl ?_
    refine o_stores (vs := [(.int _ _), (.int _ _), (.int _ _)]) 0 rfl Try.sizeOf24 rfl rfl rfl (by simp [Value.oneCell']) (by simp) ?_
    refine o_nil ?_
    refine d_val (i := 3) rfl (by kernel_rfl) (by kernel_rfl) (by kernel_rfl) rfl rfl rfl (y_assign (v := (.int _ _)) rfl) ?_
    refine d_nil (n := 1) (m := 4) (by kernel_rfl) rfl ?_
    refine s_ret ?_
    exact ⟨_, [_], resv2 rfl (.cells (cs := [.int .i64 _, .int .i64 _, .int .i64 _]) rfl Try.isAgg24 Try.sizeOf24 rfl rfl (cels_own 0 rfl rfl)) (.tmp rfl), ⟨⟨_, _, _⟩, _, _, rfl, by first | exact oneD hp h1 h2 h3 | exact oneB hp h1 (fun hh => h2 hh.1) | exact oneB hp h1 (fun hh => h3 hh.2) | exact oneA hp h1, rfl⟩, sub_picks [1] rfl⟩
  · have h1 := p6
    refine o_val rfl rfl rfl (y_move (v := (.bool _)) rfl) ?_
    refine o_guard_yes rfl rfl ?_
    refine o_val rfl rfl rfl (y_load Try.isAgg25 rfl (cel_own 1 rfl rfl)) ?_
    refine o_guard_yes rfl rfl ?_
    refine o_val rfl rfl rfl (y_neq rfl rfl) ?_
    refine o_val rfl rfl rfl (y_pick_f (v := (.bool _)) rfl rfl) ?_
    refine o_nil ?_
    refine s_if rfl (fun h7 => ?_) (fun h8 => ?_)
    · exact absurd (show eu 0 (ge (8 * n) p 1) = 0 by rw [(oneA' h1).2.2.1]; rfl) h7
    · refine s_skip ?_
      refine s_seq ?_
      refine s_pull 2 ?_
      refine s_pull 2 ?_
      refine s_pull 2 ?_
      refine s_drawn 3 (by kernel_rfl) ?_
      refine d_val (i := 0) rfl (by kernel_rfl) (by kernel_rfl) (by kernel_rfl) rfl rfl rfl (y_move (v := (.func _ _ _)) rfl) ?_
      refine d_val (i := 2) rfl (by kernel_rfl) (by kernel_rfl) (by kernel_rfl) rfl rfl rfl (y_field0 Try.runUnderlying24 rfl Try.sizeOf3 rfl rfl) ?_
      refine d_val (i := 3) rfl (by kernel_rfl) (by kernel_rfl) (by kernel_rfl) rfl rfl rfl (y_load Try.isAgg3 rfl (cel_own 0 rfl rfl)) ?_
      refine d_val (i := 5) rfl (by kernel_rfl) (by kernel_rfl) (by kernel_rfl) rfl rfl rfl (y_field0 Try.runUnderlying24 rfl Try.sizeOf3 rfl rfl) ?_
      refine d_val (i := 6) rfl (by kernel_rfl) (by kernel_rfl) (by kernel_rfl) rfl rfl rfl (y_load Try.isAgg3 rfl (cel_own 0 rfl rfl)) ?_
      refine d_val (i := 7) rfl (by kernel_rfl) (by kernel_rfl) (by kernel_rfl) rfl rfl rfl (y_field0 Try.runUnderlying24 rfl Try.sizeOf3 rfl rfl) ?_
      refine d_val (i := 8) rfl (by kernel_rfl) (by kernel_rfl) (by kernel_rfl) rfl rfl rfl (y_load Try.isAgg3 rfl (cel_own 0 rfl rfl)) ?_
      refine d_eff2 (k := 1) (k' := 10) (n := 3) (m := 2) rfl rfl (by kernel_rfl) rfl ?_ ?_
      · refine o_fnv' 3 (d := 20) rfl Try.call106 rfl rfl rfl (oneGet_c _ A n c (gp (8 * n) p 1) bs h.here.down hn hbd (gp_le hp) hsz _ _ (eu 0 (ge (8 * n) p 1)) 8 (by omega)) ?_
        rintro _ _ ⟨rfl, rfl⟩
        refine o_nil ?_
        refine d_val (i := 4) rfl (by kernel_rfl) (by kernel_rfl) (by kernel_rfl) rfl rfl rfl (y_xor rfl rfl) ?_
        refine d_val (i := 9) rfl (by kernel_rfl) (by kernel_rfl) (by kernel_rfl) rfl rfl rfl (y_build (vs := [(0, .int _ _), (1, .int _ _), (2, .int _ _)]) rfl (one_k0 _ _ _)) ?_
        refine d_eff (k := 10) (n := 3) (m := 2) rfl (by kernel_rfl) rfl ?_
        refine o_alloc rfl Try.zeroValue24 rfl (fun b9 => ?_)
        refine o_nil ?_
        refine d_eff (k := 11) (n := 3) (m := 2) rfl (by kernel_rfl) rfl ?_
        refine o_stores (vs := [(.int _ _), (.int _ _), (.int _ _)]) 5 rfl Try.sizeOf24 rfl rfl rfl (by simp [Value.oneCell']) (by simp) ?_
        refine o_nil ?_
        refine d_nil (n := 3) (m := 2) (by kernel_rfl) rfl ?_
        refine s_seq ?_
        refine s_seq ?_
        refine s_region ?_
        refine o_val rfl rfl rfl (y_move (v := (.func _ _ _)) rfl) ?_
        refine o_fnv' 3 (d := 30) rfl Try.call106 rfl rfl rfl (oneGet_c _ A n c (gp (8 * n) (gp (8 * n) p 1) 8) bs h.here.down hn hbd (gp_le (gp_le hp)) hsz _ _ (eu (eu 0 (ge (8 * n) p 1)) (ge (8 * n) (gp (8 * n) p 1) 8)) 1 (by omega)) ?_
        rintro _ _ ⟨rfl, rfl⟩
        refine o_split rfl rfl rfl (y_eql rfl rfl) (fun p10 => ?_) (fun p11 => ?_)
        · have h2 := p10
          refine o_val rfl rfl rfl (y_move (v := (.bool _)) rfl) ?_
          refine o_guard_yes rfl rfl ?_
          refine o_val rfl rfl rfl (y_load Try.isAgg25 rfl (cel_own 1 rfl rfl)) ?_
          refine o_guard_yes rfl rfl ?_
          refine o_val rfl rfl rfl (y_eql rfl rfl) ?_
          refine o_val rfl rfl rfl (y_pick_t (v := (.bool _)) rfl rfl) ?_
          refine o_nil ?_
          refine s_if rfl (fun h12 => ?_) (fun h13 => ?_)
          · have h3 := h12
            refine s_seq ?_
            refine s_region ?_
            refine o_val rfl rfl rfl (y_move (v := (.func _ _ _)) rfl) ?_
            refine o_fnv' 3 (d := 37) rfl Try.call106 rfl rfl rfl (oneGet_c _ A n c (gp (8 * n) (gp (8 * n) (gp (8 * n) p 1) 8) 1) bs h.here.down hn hbd (gp_le (gp_le (gp_le hp))) hsz _ _ (eu (eu (eu 0 (ge (8 * n) p 1)) (ge (8 * n) (gp (8 * n) p 1) 8)) (ge (8 * n) (gp (8 * n) (gp (8 * n) p 1) 8) 1)) 8 (by omega)) ?_
            rintro _ _ ⟨rfl, rfl⟩
            refine o_val rfl rfl rfl (y_sub rfl rfl (gv8_sub)) ?_
            refine o_val rfl rfl rfl (y_field0 Try.runUnderlying24 rfl Try.sizeOf3 rfl rfl) ?_
            refine o_store (v := (.int _ _)) 5 rfl Try.sizeOf3 rfl rfl rfl rfl ?_
            refine o_nil ?_
            refine s_region ?_
            refine o_val rfl rfl rfl (y_move (v := (.func _ _ _)) rfl) ?_
            refine o_fnv' 3 (d := 41) rfl Try.call106 rfl rfl rfl (oneGet_c _ A n c (gp (8 * n) (gp (8 * n) (gp (8 * n) (gp (8 * n) p 1) 8) 1) 8) bs h.here.down hn hbd (gp_le (gp_le (gp_le (gp_le hp)))) hsz _ _ (eu (eu (eu (eu 0 (ge (8 * n) p 1)) (ge (8 * n) (gp (8 * n) p 1) 8)) (ge (8 * n) (gp (8 * n) (gp (8 * n) p 1) 8) 1)) (ge (8 * n) (gp (8 * n) (gp (8 * n) (gp (8 * n) p 1) 8) 1) 8)) 8 (by omega)) ?_
            rintro _ _ ⟨rfl, rfl⟩
            refine o_val rfl rfl rfl (y_sub rfl rfl (gv8_sub)) ?_
            refine o_val rfl rfl rfl (y_field0 Try.runUnderlying24 rfl Try.sizeOf3 rfl rfl) ?_
            refine o_store (v := (.int _ _)) 5 rfl Try.sizeOf3 rfl rfl rfl rfl ?_
            refine o_nil ?_
            refine s_seq ?_
            refine s_pull 4 ?_
            refine s_drawn 1 (by kernel_rfl) ?_
            refine d_val (i := 0) rfl (by kernel_rfl) (by kernel_rfl) (by kernel_rfl) rfl rfl rfl (y_loads (cs := [_, _, _]) Try.isAgg24 Try.sizeOf24 rfl rfl rfl (cels_own 4 rfl rfl)) ?_
            refine d_val (i := 1) rfl (by kernel_rfl) (by kernel_rfl) (by kernel_rfl) rfl rfl rfl (y_load Try.isAgg25 rfl (cel_own 1 rfl rfl)) ?_
            refine d_eff (k := 2) (n := 1) (m := 5) rfl (by kernel_rfl) rfl ?_
            refine o_stores (vs := [(.int _ _), (.int _ _), (.int _ _)]) 0 rfl Try.sizeOf24 rfl rfl rfl (by simp [Value.oneCell']) (by simp) ?_
            refine o_nil ?_
            refine d_val (i := 3) rfl (by kernel_rfl) (by kernel_rfl) (by kernel_rfl) rfl rfl rfl (y_assign (v := (.int _ _)) rfl) ?_
            refine d_nil (n := 1) (m := 5) (by kernel_rfl) rfl ?_
            refine s_ret ?_
            exact ⟨_, [_], resv2 rfl (.cells (cs := [.int .i64 _, .int .i64 _, .int .i64 _]) rfl Try.isAgg24 Try.sizeOf24 rfl rfl (cels_own 0 rfl rfl)) (.tmp rfl), ⟨⟨_, _, _⟩, _, _, rfl, by first | exact oneD hp h1 h2 h3 | exact oneB hp h1 (fun hh => h2 hh.1) | exact oneB hp h1 (fun hh => h3 hh.2) | exact oneA hp h1, rfl⟩, sub_picks [1] rfl⟩
          · have h3 := h13
            refine s_skip ?_
            refine s_seq ?_
            refine s_pull 4 ?_
            refine s_drawn 1 (by kernel_rfl) ?_
            refine d_val (i := 0) rfl (by kernel_rfl) (by kernel_rfl) (by kernel_rfl) rfl rfl rfl (y_loads (cs := [_, _, _]) Try.isAgg24 Try.sizeOf24 rfl rfl rfl (cels_own 4 rfl rfl)) ?_
            refine d_val (i := 1) rfl (by kernel_rfl) (by kernel_rfl) (by kernel_rfl) rfl rfl rfl (y_load Try.isAgg25 rfl (cel_own 1 rfl rfl)) ?_
            refine d_eff (k := 2) (n := 1) (m := 5) rfl (by kernel_rfl) rfl ?_
            refine o_stores (vs := [(.int _ _), (.int _ _), (.int _ _)]) 0 rfl Try.sizeOf24 rfl rfl rfl (by simp [Value.oneCell']) (by simp) ?_
            refine o_nil ?_
            refine d_val (i := 3) rfl (by kernel_rfl) (by kernel_rfl) (by kernel_rfl) rfl rfl rfl (y_assign (v := (.int _ _)) rfl) ?_
            refine d_nil (n := 1) (m := 5) (by kernel_rfl) rfl ?_
            refine s_ret ?_
            exact ⟨_, [_], resv2 rfl (.cells (cs := [.int .i64 _, .int .i64 _, .int .i64 _]) rfl Try.isAgg24 Try.sizeOf24 rfl rfl (cels_own 0 rfl rfl)) (.tmp rfl), ⟨⟨_, _, _⟩, _, _, rfl, by first | exact oneD hp h1 h2 h3 | exact oneB hp h1 (fun hh => h2 hh.1) | exact oneB hp h1 (fun hh => h3 hh.2) | exact oneA hp h1, rfl⟩, sub_picks [1] rfl⟩
        · have h2 := p11
          refine o_val rfl rfl rfl (y_move (v := (.bool _)) rfl) ?_
          refine o_guard_no rfl rfl rfl rfl rfl ?_
          refine o_guard_no rfl rfl rfl rfl rfl ?_
          refine o_val rfl rfl rfl (y_pick_f (v := (.bool _)) rfl rfl) ?_
          refine o_nil ?_
          refine s_else rfl ?_
          refine s_skip ?_
          refine s_seq ?_
          refine s_pull 4 ?_
          refine s_drawn 1 (by kernel_rfl) ?_
          refine d_val (i := 0) rfl (by kernel_rfl) (by kernel_rfl) (by kernel_rfl) rfl rfl rfl (y_loads (cs := [_, _, _]) Try.isAgg24 Try.sizeOf24 rfl rfl rfl (cels_own 4 rfl rfl)) ?_
          refine d_val (i := 1) rfl (by kernel_rfl) (by kernel_rfl) (by kernel_rfl) rfl rfl rfl (y_load Try.isAgg25 rfl (cel_own 1 rfl rfl)) ?_
          refine d_eff (k := 2) (n := 1) (m := 5) rfl (by kernel_rfl) rfl ?_
          refine o_stores (vs := [(.int _ _), (.int _ _), (.int _ _)]) 0 rfl Try.sizeOf24 rfl rfl rfl (by simp [Value.oneCell']) (by simp) ?_
          refine o_nil ?_
          refine d_val (i := 3) rfl (by kernel_rfl) (by kernel_rfl) (by kernel_rfl) rfl rfl rfl (y_assign (v := (.int _ _)) rfl) ?_
          refine d_nil (n := 1) (m := 5) (by kernel_rfl) rfl ?_
          refine s_ret ?_
          exact ⟨_, [_], resv2 rfl (.cells (cs := [.int .i64 _, .int .i64 _, .int .i64 _]) rfl Try.isAgg24 Try.sizeOf24 rfl rfl (cels_own 0 rfl rfl)) (.tmp rfl), ⟨⟨_, _, _⟩, _, _, rfl, by first | exact oneD hp h1 h2 h3 | exact oneB hp h1 (fun hh => h2 hh.1) | exact oneB hp h1 (fun hh => h3 hh.2) | exact oneA hp h1, rfl⟩, sub_picks [1] rfl⟩
      · refine o_alloc rfl Try.zeroValue24 rfl (fun b14 => ?_)
        refine o_nil ?_
        refine d_eff (k := 1) (n := 3) (m := 2) rfl (by kernel_rfl) rfl ?_
        refine o_fnv' 3 (d := 20) rfl Try.call106 rfl rfl rfl (oneGet_c _ A n c (gp (8 * n) p 1) bs h.here.down hn hbd (gp_le hp) hsz _ _ (eu 0 (ge (8 * n) p 1)) 8 (by omega)) ?_
        rintro _ _ ⟨rfl, rfl⟩
        refine o_nil ?_
        refine d_val (i := 4) rfl (by kernel_rfl) (by kernel_rfl) (by kernel_rfl) rfl rfl rfl (y_xor rfl rfl) ?_
        refine d_val (i := 9) rfl (by kernel_rfl) (by kernel_rfl) (by kernel_rfl) rfl rfl rfl (y_build (vs := [(0, .int _ _), (1, .int _ _), (2, .int _ _)]) rfl (one_k0 _ _ _)) ?_
        refine d_eff (k := 11) (n := 3) (m := 2) rfl (by kernel_rfl) rfl ?_
        refine o_stores (vs := [(.int _ _), (.int _ _), (.int _ _)]) 5 rfl Try.sizeOf24 rfl rfl rfl (by simp [Value.oneCell']) (by simp) ?_
        refine o_nil ?_
        refine d_nil (n := 3) (m := 2) (by kernel_rfl) rfl ?_
        refine s_seq ?_
        refine s_seq ?_
        refine s_region ?_
        refine o_val rfl rfl rfl (y_move (v := (.func _ _ _)) rfl) ?_
        refine o_fnv' 3 (d := 30) rfl Try.call106 rfl rfl rfl (oneGet_c _ A n c (gp (8 * n) (gp (8 * n) p 1) 8) bs h.here.down hn hbd (gp_le (gp_le hp)) hsz _ _ (eu (eu 0 (ge (8 * n) p 1)) (ge (8 * n) (gp (8 * n) p 1) 8)) 1 (by omega)) ?_
        rintro _ _ ⟨rfl, rfl⟩
        refine o_split rfl rfl rfl (y_eql rfl rfl) (fun p15 => ?_) (fun p16 => ?_)
        · have h2 := p15
          refine o_val rfl rfl rfl (y_move (v := (.bool _)) rfl) ?_
          refine o_guard_yes rfl rfl ?_
          refine o_val rfl rfl rfl (y_load Try.isAgg25 rfl (cel_own 1 rfl rfl)) ?_
          refine o_guard_yes rfl rfl ?_
          refine o_val rfl rfl rfl (y_eql rfl rfl) ?_
          refine o_val rfl rfl rfl (y_pick_t (v := (.bool _)) rfl rfl) ?_
          refine o_nil ?_
          refine s_if rfl (fun h17 => ?_) (fun h18 => ?_)
          · have h3 := h17
            refine s_seq ?_
            refine s_region ?_
            refine o_val rfl rfl rfl (y_move (v := (.func _ _ _)) rfl) ?_
            refine o_fnv' 3 (d := 37) rfl Try.call106 rfl rfl rfl (oneGet_c _ A n c (gp (8 * n) (gp (8 * n) (gp (8 * n) p 1) 8) 1) bs h.here.down hn hbd (gp_le (gp_le (gp_le hp))) hsz _ _ (eu (eu (eu 0 (ge (8 * n) p 1)) (ge (8 * n) (gp (8 * n) p 1) 8)) (ge (8 * n) (gp (8 * n) (gp (8 * n) p 1) 8) 1)) 8 (by omega)) ?_
            rintro _ _ ⟨rfl, rfl⟩
            refine o_val rfl rfl rfl (y_sub rfl rfl (gv8_sub)) ?_
            refine o_val rfl rfl rfl (y_field0 Try.runUnderlying24 rfl Try.sizeOf3 rfl rfl) ?_
            refine o_store (v := (.int _ _)) 5 rfl Try.sizeOf3 rfl rfl rfl rfl ?_
            refine o_nil ?_
            refine s_region ?_
            refine o_val rfl rfl rfl (y_move (v := (.func _ _ _)) rfl) ?_
            refine o_fnv' 3 (d := 41) rfl Try.call106 rfl rfl rfl (oneGet_c _ A n c (gp (8 * n) (gp (8 * n) (gp (8 * n) (gp (8 * n) p 1) 8) 1) 8) bs h.here.down hn hbd (gp_le (gp_le (gp_le (gp_le hp)))) hsz _ _ (eu (eu (eu (eu 0 (ge (8 * n) p 1)) (ge (8 * n) (gp (8 * n) p 1) 8)) (ge (8 * n) (gp (8 * n) (gp (8 * n) p 1) 8) 1)) (ge (8 * n) (gp (8 * n) (gp (8 * n) (gp (8 * n) p 1) 8) 1) 8)) 8 (by omega)) ?_
            rintro _ _ ⟨rfl, rfl⟩
            refine o_val rfl rfl rfl (y_sub rfl rfl (gv8_sub)) ?_
            refine o_val rfl rfl rfl (y_field0 Try.runUnderlying24 rfl Try.sizeOf3 rfl rfl) ?_
            refine o_store (v := (.int _ _)) 5 rfl Try.sizeOf3 rfl rfl rfl rfl ?_
            refine o_nil ?_
            refine s_seq ?_
            refine s_pull 4 ?_
            refine s_drawn 1 (by kernel_rfl) ?_
            refine d_val (i := 0) rfl (by kernel_rfl) (by kernel_rfl) (by kernel_rfl) rfl rfl rfl (y_loads (cs := [_, _, _]) Try.isAgg24 Try.sizeOf24 rfl rfl rfl (cels_own 4 rfl rfl)) ?_
            refine d_val (i := 1) rfl (by kernel_rfl) (by kernel_rfl) (by kernel_rfl) rfl rfl rfl (y_load Try.isAgg25 rfl (cel_own 1 rfl rfl)) ?_
            refine d_eff (k := 2) (n := 1) (m := 5) rfl (by kernel_rfl) rfl ?_
            refine o_stores (vs := [(.int _ _), (.int _ _), (.int _ _)]) 0 rfl Try.sizeOf24 rfl rfl rfl (by simp [Value.oneCell']) (by simp) ?_
            refine o_nil ?_
            refine d_val (i := 3) rfl (by kernel_rfl) (by kernel_rfl) (by kernel_rfl) rfl rfl rfl (y_assign (v := (.int _ _)) rfl) ?_
            refine d_nil (n := 1) (m := 5) (by kernel_rfl) rfl ?_
            refine s_ret ?_
            exact ⟨_, [_], resv2 rfl (.cells (cs := [.int .i64 _, .int .i64 _, .int .i64 _]) rfl Try.isAgg24 Try.sizeOf24 rfl rfl (cels_own 0 rfl rfl)) (.tmp rfl), ⟨⟨_, _, _⟩, _, _, rfl, by first | exact oneD hp h1 h2 h3 | exact oneB hp h1 (fun hh => h2 hh.1) | exact oneB hp h1 (fun hh => h3 hh.2) | exact oneA hp h1, rfl⟩, sub_picks [1] rfl⟩
          · have h3 := h18
            refine s_skip ?_
            refine s_seq ?_
            refine s_pull 4 ?_
            refine s_drawn 1 (by kernel_rfl) ?_
            refine d_val (i := 0) rfl (by kernel_rfl) (by kernel_rfl) (by kernel_rfl) rfl rfl rfl (y_loads (cs := [_, _, _]) Try.isAgg24 Try.sizeOf24 rfl rfl rfl (cels_own 4 rfl rfl)) ?_
            refine d_val (i := 1) rfl (by kernel_rfl) (by kernel_rfl) (by kernel_rfl) rfl rfl rfl (y_load Try.isAgg25 rfl (cel_own 1 rfl rfl)) ?_
            refine d_eff (k := 2) (n := 1) (m := 5) rfl (by kernel_rfl) rfl ?_
            refine o_stores (vs := [(.int _ _), (.int _ _), (.int _ _)]) 0 rfl Try.sizeOf24 rfl rfl rfl (by simp [Value.oneCell']) (by simp) ?_
            refine o_nil ?_
            refine d_val (i := 3) rfl (by kernel_rfl) (by kernel_rfl) (by kernel_rfl) rfl rfl rfl (y_assign (v := (.int _ _)) rfl) ?_
            refine d_nil (n := 1) (m := 5) (by kernel_rfl) rfl ?_
            refine s_ret ?_
            exact ⟨_, [_], resv2 rfl (.cells (cs := [.int .i64 _, .int .i64 _, .int .i64 _]) rfl Try.isAgg24 Try.sizeOf24 rfl rfl (cels_own 0 rfl rfl)) (.tmp rfl), ⟨⟨_, _, _⟩, _, _, rfl, by first | exact oneD hp h1 h2 h3 | exact oneB hp h1 (fun hh => h2 hh.1) | exact oneB hp h1 (fun hh => h3 hh.2) | exact oneA hp h1, rfl⟩, sub_picks [1] rfl⟩
        · have h2 := p16
          refine o_val rfl rfl rfl (y_move (v := (.bool _)) rfl) ?_
          refine o_guard_no rfl rfl rfl rfl rfl ?_
          refine o_guard_no rfl rfl rfl rfl rfl ?_
          refine o_val rfl rfl rfl (y_pick_f (v := (.bool _)) rfl rfl) ?_
          refine o_nil ?_
          refine s_else rfl ?_
          refine s_skip ?_
          refine s_seq ?_
          refine s_pull 4 ?_
          refine s_drawn 1 (by kernel_rfl) ?_
          refine d_val (i := 0) rfl (by kernel_rfl) (by kernel_rfl) (by kernel_rfl) rfl rfl rfl (y_loads (cs := [_, _, _]) Try.isAgg24 Try.sizeOf24 rfl rfl rfl (cels_own 4 rfl rfl)) ?_
          refine d_val (i := 1) rfl (by kernel_rfl) (by kernel_rfl) (by kernel_rfl) rfl rfl rfl (y_load Try.isAgg25 rfl (cel_own 1 rfl rfl)) ?_
          refine d_eff (k := 2) (n := 1) (m := 5) rfl (by kernel_rfl) rfl ?_
          refine o_stores (vs := [(.int _ _), (.int _ _), (.int _ _)]) 0 rfl Try.sizeOf24 rfl rfl rfl (by simp [Value.oneCell']) (by simp) ?_
          refine o_nil ?_
          refine d_val (i := 3) rfl (by kernel_rfl) (by kernel_rfl) (by kernel_rfl) rfl rfl rfl (y_assign (v := (.int _ _)) rfl) ?_
          refine d_nil (n := 1) (m := 5) (by kernel_rfl) rfl ?_
          refine s_ret ?_
          exact ⟨_, [_], resv2 rfl (.cells (cs := [.int .i64 _, .int .i64 _, .int .i64 _]) rfl Try.isAgg24 Try.sizeOf24 rfl rfl (cels_own 0 rfl rfl)) (.tmp rfl), ⟨⟨_, _, _⟩, _, _, rfl, by first | exact oneD hp h1 h2 h3 | exact oneB hp h1 (fun hh => h2 hh.1) | exact oneB hp h1 (fun hh => h3 hh.2) | exact oneA hp h1, rfl⟩, sub_picks [1] rfl⟩

end Go.Proofs.Ytppciokaldmipaa.K
