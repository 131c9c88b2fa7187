/- Walks over the packages bits and input: writers of bits, the test of an input. No condition beyond what each statement names. -/
import Derived.Test.YtoigljcmpicgfaaProg
import Derived.Test.YtoigljcmpicgfaaK4
import Derived.Test.YtoigljcmpicgfaaB1
set_option linter.unusedVariables false
set_option linter.unusedSimpArgs false
set_option maxRecDepth 100000
namespace Go.Proofs.Ytoigljcmpicgfaa.K
open Go.RowKit

/-- Is an input one that the program takes? -/
def okIn (k x y : Int) : Prop := 0 ≤ k ∧ k ≤ 255 ∧ -128 ≤ x ∧ x ≤ 127 ∧ -128 ≤ y ∧ y ≤ 127
instance (k x y : Int) : Decidable (okIn k x y) := by unfold okIn; infer_instance
def inErr (k x y : Int) : Int := if okIn k x y then 0 else 1
theorem i8_only {x : Int} (h : inK .i64 x) : x = IntKind.i8.wrap x ↔ -128 ≤ x ∧ x ≤ 127 := by
  constructor
  · intro e; have := inK_wrap .i8 x; rw [← e] at this; exact this
  · intro e; exact (wrap_in (k := .i8) e).symm
theorem and255 {x : Int} (h : inK .i64 x) : x = bAnd .i64 x 255 ↔ 0 ≤ x ∧ x ≤ 255 := by
  unfold bAnd
  have h2 : (BitVec.ofInt 64 x &&& BitVec.ofInt 64 255).toNat = (x % 18446744073709551616).toNat % 256 := by
    rw [BitVec.toNat_and, show (BitVec.ofInt 64 255).toNat = 2 ^ 8 - 1 by decide, Nat.and_two_pow_sub_one_eq_mod]
    congr 1
  rw [show IntKind.i64.bits = 64 from rfl, h2, wrap_in (k := .i64) (by simp only [inK]; omega)]
  simp only [inK] at h
  omega

/-- A writer in a loop. -/
structure WS where
  i : Nat
  A : Option Addr
  n : Nat
  c : Nat
  E : Grp
  bs : List Int
  bits : List Bool
/-- A writer's own block. -/
def wgrp (g : Nat) (A : Option Addr) (n c : Nat) (k : Int) : Grp := [(g, .cells [.slice A n c, .int .i64 k].toArray 153 (0, 0))]
theorem shr_none {v : Int} {n : Nat} (h0 : 0 ≤ v) (hn : n ≤ 64) (h : v < 2 ^ n) : v.fdiv (2 ^ (min (n : Int).toNat 64)) = 0 := by
  rw [show min (n : Int).toNat 64 = n by omega, Int.fdiv_eq_ediv_of_nonneg _ (Int.le_of_lt (Int.pow_pos (by omega)))]
  exact Int.ediv_eq_zero_of_lt h0 h
theorem room_yes {bs : List Int} {n : Nat} (h : n % 8 = 0) : room bs n = bs ++ [0] := by simp [room, h]
theorem room_no {bs : List Int} {n : Nat} (h : ¬ n % 8 = 0) : room bs n = bs := by simp [room, h]
theorem put_step {bs : List Int} {bits : List Bool} {v : Int} {i : Nat} (h : Wr bs (bits ++ bitsOf v i)) (hv : 0 ≤ v ∧ v ≤ 18446744073709551615) (hi : i < 64) :
    Wr ((room bs (bits.length + i)).set ((((bits.length + i : Nat) : Int) / 8).toNat) (bOr .u8 ((room bs (bits.length + i)).getD ((((bits.length + i : Nat) : Int) / 8).toNat) 0)
      (IntKind.u8.wrap (IntKind.u8.wrap (bAnd .u64 (v.fdiv (2 ^ (min ((i : Int).toNat) 64))) 1) * 2 ^ (min ((((bits.length + i : Nat) : Int) % 8).toNat) 8))))) (bits ++ bitsOf v (i + 1)) := by
  have hl : (bits ++ bitsOf v i).length = bits.length + i := by rw [List.length_append, bitsOf_len]
  have h1 : (((bits.length + i : Nat) : Int) / 8).toNat = (bits.length + i) / 8 := by omega
  have h2 : (((bits.length + i : Nat) : Int) % 8).toNat = (bits.length + i) % 8 := by omega
  have hs := h.step (v.toNat.testBit i) (x := _) rfl
  rw [hl] at hs
  rw [h1, h2, Int.toNat_natCast, bit_byte hv hi (Nat.mod_lt _ (by omega)), bitsOf_succ, ← List.append_assoc]
  exact hs
theorem map_one (bs : List Int) : List.map (Value.int .u8) bs ++ [Value.int .u8 0] = (bs ++ [0]).map (Value.int .u8) := by simp

theorem Put_k0 (v0 : Int) (w : World) : (Instr.buildSlice 23 1 ([(0, (.int .u8 v0))] : List (Nat × Value)).toArray).run Try.prog w = .ok (.slice (some ⟨w.heap.size, 0, none⟩) 1 1) { w with heap := w.heap.push (.cells ([.int .u8 v0] : List Value).toArray 5 (0, 0)) } := by kernel_rfl
theorem Put_c (p : Nat) (A : Option Addr) (m c : Nat) (E : Grp) (bs : List Int) (bits : List Bool) (v : Int) (n : Nat) (hW : Wr bs bits) (hos : OS A m c 5 1 (bs.map (.int .u8)) E)
    (hv : 0 ≤ v ∧ v ≤ 18446744073709551615) (hn : n ≤ 64) (hvn : n < 64 → v < 2 ^ n) (hfit : bits.length + n ≤ 524288) (V : Mem) :
    CallS Try.prog 67 [.pointer (some ⟨p, 0, none⟩), .int .u64 v, .int .i64 n].toArray V [wgrp p A m c bits.length, E]
      (fun r L' => r = .int .i64 0 ∧ ∃ A m c E bs', Wr bs' (bits ++ bitsOf v n) ∧ OS A m c 5 1 (bs'.map (.int .u8)) E ∧ L' = [wgrp p A m c ((bits ++ bitsOf v n).length : Nat), E]) := by
  refine callS Try.func67 rfl rfl (fun w0 => ?_)
  refine s_seq ?_
  refine s_region ?_
  refine o_val rfl rfl rfl (y_assign (v := (.int _ _)) rfl) ?_
  refine o_nil ?_
  refine s_join (γ := Unit) (fun u => [(0, .pointer (some ⟨p, 0, none⟩)), (1, .int .u64 v), (2, .int .i64 n)]) (fun u => [wgrp p A m c bits.length, E]) (fun u => True) ?_ ?_
  · refine s_seq ?_
    refine s_region ?_
    refine o_val rfl rfl rfl (y_move (v := (.int _ _)) rfl) ?_
    refine o_split rfl rfl rfl (y_lss rfl rfl) (fun p1 => ?_) (fun p2 => ?_)
    · exfalso; omega
    · refine o_val rfl rfl rfl (y_move (v := (.bool _)) rfl) ?_
      refine o_guard_yes rfl rfl ?_
      refine o_val rfl rfl rfl (y_move (v := (.int _ _)) rfl) ?_
      refine o_guard_yes rfl rfl ?_
      refine o_split rfl rfl rfl (y_gtr rfl rfl) (fun p3 => ?_) (fun p4 => ?_)
      · exfalso; omega
      · refine o_val rfl rfl rfl (y_pick_f (v := (.bool _)) rfl rfl) ?_
        refine o_val rfl rfl rfl (y_move (v := (.bool _)) rfl) ?_
        refine o_guard_yes rfl rfl ?_
        refine o_val rfl rfl rfl (y_move (v := (.int _ _)) rfl) ?_
        refine o_guard_yes rfl rfl ?_
        refine o_split rfl rfl rfl (y_lss rfl rfl) (fun p5 => ?_) (fun p6 => ?_)
        · refine o_guard_yes rfl rfl ?_
          refine o_val rfl rfl rfl (y_move (v := (.bool _)) rfl) ?_
          refine o_guard_yes rfl rfl ?_
          refine o_val rfl rfl rfl (y_move (v := (.int _ _)) rfl) ?_
          refine o_guard_yes rfl rfl ?_
          refine o_val rfl rfl rfl (y_move (v := (.int _ _)) rfl) ?_
          refine o_guard_yes rfl rfl ?_
          refine o_val rfl rfl rfl (y_shr rfl rfl (by omega)) ?_
          refine o_guard_yes rfl rfl ?_
          refine o_split rfl rfl rfl (y_neq rfl rfl) (fun p7 => ?_) (fun p8 => ?_)
          · exact absurd (shr_none hv.1 hn (hvn (by omega))) p7
          · refine o_guard_yes rfl rfl ?_
            refine o_val rfl rfl rfl (y_pick_t (v := (.bool _)) rfl rfl) ?_
            refine o_val rfl rfl rfl (y_pick_f (v := (.bool _)) rfl rfl) ?_
            refine o_nil ?_
            refine s_else rfl ?_
            refine s_skip ?_
            exact ⟨(), trivial, ⟨rfl, rfl, rfl, trivial⟩, sub_front ⟨_, rfl⟩⟩
        · refine o_guard_yes rfl rfl ?_
          refine o_val rfl rfl rfl (y_move (v := (.bool _)) rfl) ?_
          refine o_guard_no rfl rfl rfl rfl rfl ?_
          refine o_guard_no rfl rfl rfl rfl rfl ?_
          refine o_guard_no rfl rfl rfl rfl rfl ?_
          refine o_guard_no rfl rfl rfl rfl rfl ?_
          refine o_guard_yes rfl rfl ?_
          refine o_val rfl rfl rfl (y_pick_f (v := (.bool _)) rfl rfl) ?_
          refine o_val rfl rfl rfl (y_pick_f (v := (.bool _)) rfl rfl) ?_
          refine o_nil ?_
          refine s_else rfl ?_
          refine s_skip ?_
          exact ⟨(), trivial, ⟨rfl, rfl, rfl, trivial⟩, sub_front ⟨_, rfl⟩⟩
  · intro u _f hI
    refine s_seq ?_
    refine s_seq ?_
    refine s_region ?_
    refine o_val rfl rfl rfl (y_move (v := (.pointer _)) rfl) ?_
    refine o_val rfl rfl rfl (y_nilCheck rfl) ?_
    refine o_val rfl rfl rfl (y_field0 Try.runUnderlying153 rfl Try.sizeOf3 rfl rfl) ?_
    refine o_val rfl rfl rfl (y_load Try.isAgg3 rfl (cel_own 0 rfl rfl)) ?_
    refine o_val rfl rfl rfl (y_move (v := (.int _ _)) rfl) ?_
    refine o_val rfl rfl rfl (y_add rfl rfl (by simp only [inK]; omega)) ?_
    refine o_val rfl rfl rfl (y_gtr rfl rfl) ?_
    refine o_nil ?_
    refine s_if rfl (fun h9 => ?_) (fun h10 => ?_)
    · exfalso; omega
    · refine s_skip ?_
      refine s_seq ?_
      refine s_seq ?_
      refine s_region ?_
      refine o_val rfl rfl rfl (y_move (v := (.int _ _)) rfl) ?_
      refine o_val rfl rfl rfl (y_move (v := (.int _ _)) rfl) ?_
      refine o_nil ?_
      refine s_block ?_
      refine s_loop (γ := G1 × List Int) (fun g => [(0, .pointer (some ⟨p, 0, none⟩)), (1, .int .u64 v), (2, .int .i64 n), (31, .int .i64 n), (32, .int .i64 g.1.i)]) (fun g => [wgrp p g.1.A g.1.n g.1.c (bits.length + g.1.i : Nat), g.1.E]) (fun g => g.1.i ≤ n ∧ Wr g.2 (bits ++ bitsOf v g.1.i) ∧ OS g.1.A g.1.n g.1.c 5 1 (g.2.map (.int .u8)) g.1.E) (fun g => n - g.1.i) ((G1.mk 0 A m c E, bs)) ?_ ⟨rfl, rfl, rfl, rfl, rfl, trivial⟩ (sub_front ⟨_, rfl⟩) ?_
      · exact ⟨Nat.zero_le _, by rw [bitsOf_zero, List.append_nil]; exact hW, hos⟩
      · intro g _f hI
        obtain ⟨hi, hW1, hos1⟩ := hI
        have hl1 : (bits ++ bitsOf v g.1.i).length = bits.length + g.1.i := by rw [List.length_append, bitsOf_len]
        refine s_seq ?_
        refine s_region ?_
        refine o_val rfl rfl rfl (y_lss rfl rfl) ?_
        refine o_nil ?_
        refine s_seq ?_
        refine s_if rfl (fun h11 => ?_) (fun h12 => ?_)
        · refine s_skip ?_
          refine s_seq ?_
          refine s_block ?_
          refine s_seq ?_
          refine s_region ?_
          refine o_val rfl rfl rfl (y_move (v := (.int _ _)) rfl) ?_
          refine o_val rfl rfl rfl (y_assign (v := (.int _ _)) rfl) ?_
          refine o_nil ?_
          refine s_join (γ := G1) (fun q => [(0, .pointer (some ⟨p, 0, none⟩)), (1, .int .u64 v), (2, .int .i64 n), (7, .int .i64 g.1.i), (31, .int .i64 n), (32, .int .i64 g.1.i)]) (fun q => [wgrp p q.A q.n q.c (bits.length + g.1.i : Nat), q.E]) (fun q => OS q.A q.n q.c 5 1 ((room g.2 (bits.length + g.1.i)).map (.int .u8)) q.E) ?_ ?_
          · refine s_seq ?_
            refine s_region ?_
            refine o_val rfl rfl rfl (y_move (v := (.pointer _)) rfl) ?_
            refine o_val rfl rfl rfl (y_nilCheck rfl) ?_
            refine o_val rfl rfl rfl (y_field0 Try.runUnderlying153 rfl Try.sizeOf3 rfl rfl) ?_
            refine o_val rfl rfl rfl (y_load Try.isAgg3 rfl (cel_own 0 rfl rfl)) ?_
            refine o_val rfl rfl rfl (y_rem rfl rfl (by omega)) ?_
            refine o_val rfl rfl rfl (y_eql rfl rfl) ?_
            refine o_nil ?_
            refine s_if rfl (fun h13 => ?_) (fun h14 => ?_)
            · refine s_region ?_
              refine o_val rfl rfl rfl (y_move (v := (.pointer _)) rfl) ?_
              refine o_val rfl rfl rfl (y_move (v := (.pointer _)) rfl) ?_
              refine o_val rfl rfl rfl (y_nilCheck rfl) ?_
              refine o_val rfl rfl rfl (y_field0 Try.runUnderlying153 rfl Try.sizeOf23 rfl rfl) ?_
              refine o_val rfl rfl rfl (y_load Try.isAgg23 rfl (cel_own 0 rfl rfl)) ?_
              refine o_lit (vs := [(0, .int _ _)]) rfl rfl (Put_k0 _) (fun b15 => ?_)
              refine o_append (sz := 1) (bytes := 1) (news := [(.int _ _)]) 1 rfl Try.underlying23 Try.type5 rfl rfl rfl rfl rfl hos1 rfl rfl (Src.slice Try.underlying23 (cels_own 2 rfl rfl) rfl (by simp [Value.oneCell']) (by simp)) (by have h1 := hos1.len; have h2 := hW1.1; rw [hl1] at h2; simp at h1; omega) (fun A16 c17 E18 ho19 hn20 => ?_)
              have ho21 : OS A16 (g.1.n + 1) c17 5 1 ((room g.2 (bits.length + g.1.i)).map (.int .u8)) E18 := by rw [room_yes (by omega), ← map_one]; exact ho19
              clear ho19
              refine o_val rfl rfl rfl (y_nilCheck rfl) ?_
              refine o_val rfl rfl rfl (y_field0 Try.runUnderlying153 rfl Try.sizeOf23 rfl rfl) ?_
              refine o_store (v := (.slice _ _ _)) 0 rfl Try.sizeOf23 rfl rfl rfl rfl ?_
              refine o_nil ?_
              exact ⟨(G1.mk 0 A16 (g.1.n + 1) c17 E18), ho21, ⟨rfl, rfl, rfl, rfl, rfl, rfl, trivial⟩, sub_front ⟨_, rfl⟩⟩
            · refine s_skip ?_
              exact ⟨(G1.mk 0 g.1.A g.1.n g.1.c g.1.E), (by rw [room_no (by omega)]; exact hos1), ⟨rfl, rfl, rfl, rfl, rfl, rfl, trivial⟩, sub_front ⟨_, rfl⟩⟩
          · intro q _f hoq
            have hrl := hW1.roomLen
            rw [hl1] at hrl
            have hqn := hoq.len
            simp only [List.length_map, hrl] at hqn
            refine s_seq ?_
            refine s_tail 24 (by kernel_rfl) (by kernel_rfl) ?_
            refine t_val rfl rfl rfl (y_move (v := (.pointer _)) rfl) ?_
            refine t_val rfl rfl rfl (y_nilCheck rfl) ?_
            refine t_val rfl rfl rfl (y_field0 Try.runUnderlying153 rfl Try.sizeOf23 rfl rfl) ?_
            refine t_val rfl rfl rfl (y_load Try.isAgg23 rfl (cel_own 0 rfl rfl)) ?_
            refine t_val rfl rfl rfl (y_move (v := (.pointer _)) rfl) ?_
            refine t_val rfl rfl rfl (y_nilCheck rfl) ?_
            refine t_val rfl rfl rfl (y_field0 Try.runUnderlying153 rfl Try.sizeOf3 rfl rfl) ?_
            refine t_val rfl rfl rfl (y_load Try.isAgg3 rfl (cel_own 0 rfl rfl)) ?_
            refine t_val rfl rfl rfl (y_quo rfl rfl (by simp only [inK]; omega)) ?_
            refine t_val rfl rfl rfl (y_index1 Try.runUnderlying23 Try.sizeOf5 (hoq.some_of (by omega)) rfl rfl (by omega)) ?_
            refine t_val rfl rfl rfl (y_load Try.isAgg5 rfl (cel_int (hoq.cels (j := 1) rfl) (by rw [hrl]; omega))) ?_
            refine t_val rfl rfl rfl (y_move (v := (.int _ _)) rfl) ?_
            refine t_val rfl rfl rfl (y_move (v := (.int _ _)) rfl) ?_
            refine t_val rfl rfl rfl (y_shr rfl rfl (by omega)) ?_
            refine t_val rfl rfl rfl (y_and rfl rfl) ?_
            refine t_val rfl rfl rfl (y_conv' Try.runUnderlying53 Try.runUnderlying5 rfl) ?_
            refine t_val rfl rfl rfl (y_move (v := (.pointer _)) rfl) ?_
            refine t_val rfl rfl rfl (y_nilCheck rfl) ?_
            refine t_val rfl rfl rfl (y_field0 Try.runUnderlying153 rfl Try.sizeOf3 rfl rfl) ?_
            refine t_val rfl rfl rfl (y_load Try.isAgg3 rfl (cel_own 0 rfl rfl)) ?_
            refine t_val rfl rfl rfl (y_rem rfl rfl (by omega)) ?_
            refine t_val rfl rfl rfl (y_shl rfl rfl (by omega)) ?_
            refine t_val rfl rfl rfl (y_or rfl rfl) ?_
            refine t_val rfl rfl rfl (y_index1 Try.runUnderlying23 Try.sizeOf5 (hoq.some_of (by omega)) rfl rfl (by omega)) ?_
            refine t_nil ?_
            refine o_store_os (vs := [(.int _ _)]) 1 rfl hoq Try.sizeOf5 rfl rfl rfl (by simp [Value.oneCell']) (by simp) (by simp [hrl] <;> omega) (fun E22 ho23 => ?_)
            have ho24 := os_lay_int ho23 (by simp [hrl] <;> omega)
            clear ho23
            refine o_nil ?_
            refine s_region ?_
            refine o_val rfl rfl rfl (y_move (v := (.pointer _)) rfl) ?_
            refine o_val rfl rfl rfl (y_nilCheck rfl) ?_
            refine o_val rfl rfl rfl (y_field0 Try.runUnderlying153 rfl Try.sizeOf3 rfl rfl) ?_
            refine o_val rfl rfl rfl (y_load Try.isAgg3 rfl (cel_own 0 rfl rfl)) ?_
            refine o_val rfl rfl rfl (y_add rfl rfl (by simp only [inK]; omega)) ?_
            refine o_val rfl rfl rfl (y_nilCheck rfl) ?_
            refine o_val rfl rfl rfl (y_field0 Try.runUnderlying153 rfl Try.sizeOf3 rfl rfl) ?_
            refine o_store (v := (.int _ _)) 0 rfl Try.sizeOf3 rfl rfl rfl rfl ?_
            refine o_nil ?_
            refine s_region ?_
            refine o_val rfl rfl rfl (y_add rfl rfl (by simp only [inK]; omega)) ?_
            refine o_val rfl rfl rfl (y_move (v := (.int _ _)) rfl) ?_
            refine o_nil ?_
            exact ⟨(G1.mk (g.1.i + 1) q.A q.n q.c E22, _), (by first | omega | (dsimp only; omega)), ⟨by show g.1.i + 1 ≤ n; omega, put_step hW1 hv (by omega), ho24⟩, ⟨rfl, rfl, rfl, rfl, (congrArg (Value.int _) (by show (g.1.i : Int) + 1 = ((g.1.i + 1 : Nat) : Int); omega)), trivial⟩, sub_front ⟨_, rfl⟩⟩
        · refine s_exit ?_
          refine s_seq ?_
          refine s_region ?_
          refine o_val rfl rfl rfl (y_assign (v := (.int _ _)) rfl) ?_
          refine o_nil ?_
          refine s_ret ?_
          have hin : g.1.i = n := by omega
          rw [hin] at hW1 hl1
          exact ⟨_, _, res1 rfl rfl, ⟨rfl, _, _, _, _, _, hW1, hos1, by rw [hl1, ← hin]⟩, sub_front ⟨_, rfl⟩⟩

end Go.Proofs.Ytoigljcmpicgfaa.K
