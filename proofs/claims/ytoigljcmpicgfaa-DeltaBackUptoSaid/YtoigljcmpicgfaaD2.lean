/- Walks: numbers written in groups of bits, differences of lists written. No condition beyond what each statement names. -/
import Derived.Test.YtoigljcmpicgfaaProg
import Derived.Test.YtoigljcmpicgfaaB6
import Derived.Test.YtoigljcmpicgfaaI1
import Derived.Test.YtoigljcmpicgfaaI3
import Derived.Test.YtoigljcmpicgfaaD1
set_option linter.unusedVariables false
set_option linter.unusedSimpArgs false
set_option maxRecDepth 100000
namespace Go.Proofs.Ytoigljcmpicgfaa.K
open Go.RowKit

theorem WNat_c (p : Nat) (A : Option Addr) (m c : Nat) (E : Grp) (bs : List Int) (bits : List Bool) (v : Nat) (hW : Wr bs bits) (hos : OS A m c 5 1 (bs.map (.int .u8)) E) (hv : v < 18446744073709551616) (hfit : bits.length ≤ 524288) (V : Mem) : CallS Try.prog 68 [.pointer (some ⟨p, 0, none⟩), .int .u64 v].toArray V [wgrp p A m c bits.length, E] (fun r L' => r = .int .i64 (wE bits (natB v)) ∧ ∃ A m c E bs', Wr bs' (wB bits (natB v)) ∧ OS A m c 5 1 (bs'.map (.int .u8)) E ∧ L' = [wgrp p A m c ((wB bits (natB v)).length : Nat), E]) := by
  have hg := grp_le hv
  have hnl := natB_len v
  refine callS Try.func68 rfl rfl (fun w0 => ?_)
  refine s_seq ?_
  refine s_region ?_
  refine o_val rfl rfl rfl (y_assign (v := (.int _ _)) rfl) ?_
  refine o_nil ?_
  refine s_seq ?_
  refine s_region ?_
  refine o_val rfl rfl rfl (y_move (v := (.int _ _)) rfl) ?_
  refine o_fn 0 (d := 9) rfl Try.call93 (groups_c v hv) rfl ?_
  rintro _ _ ⟨rfl, rfl⟩
  refine o_val rfl rfl rfl (y_assign (v := (.int _ _)) rfl) ?_
  refine o_nil ?_
  refine s_seq ?_
  refine s_seq ?_
  refine s_region ?_
  refine o_val rfl rfl rfl (y_move (v := (.pointer _)) rfl) ?_
  refine o_val rfl rfl rfl (y_nilCheck rfl) ?_
  refine o_val rfl rfl rfl (y_field0 Try.runUnderlying153 rfl Try.sizeOf3 rfl rfl) ?_
  refine o_val rfl rfl rfl (y_load Try.isAgg3 rfl (cel_own 0 rfl rfl)) ?_
  refine o_val rfl rfl rfl (y_move (v := (.int _ _)) rfl) ?_
  refine o_val rfl rfl rfl (y_mul rfl rfl (by simp only [inK]; omega)) ?_
  refine o_val rfl rfl rfl (y_add rfl rfl (by simp only [inK]; omega)) ?_
  refine o_val rfl rfl rfl (y_gtr rfl rfl) ?_
  refine o_nil ?_
  refine s_if rfl (fun h1 => ?_) (fun h2 => ?_)
  · have hbig : 524288 < bits.length + (natB v).length := by omega
    refine s_seq ?_
    refine s_region ?_
    refine o_val rfl rfl rfl (y_assign (v := (.int _ _)) rfl) ?_
    refine o_nil ?_
    refine s_ret ?_
    exact ⟨_, [_, _], res1 rfl rfl, ⟨by unfold wE; rw [if_pos hbig]; rfl, _, _, _, _, _, by unfold wB; rw [if_pos hbig]; exact hW, hos, by unfold wB; rw [if_pos hbig]⟩, sub_front ⟨_, rfl⟩⟩
  · have hok : ¬ 524288 < bits.length + (natB v).length := by omega
    refine s_skip ?_
    refine s_seq ?_
    refine s_seq ?_
    refine s_region ?_
    refine o_val rfl rfl rfl (y_move (v := (.int _ _)) rfl) ?_
    refine o_val rfl rfl rfl (y_move (v := (.int _ _)) rfl) ?_
    refine o_nil ?_
    refine s_block ?_
    refine s_loop (γ := WS) (fun g => [(0, .pointer (some ⟨p, 0, none⟩)), (1, .int .u64 v), (5, .int .i64 (grp v : Nat)), (18, .int .i64 (grp v : Nat)), (19, .int .i64 g.i)]) (fun g => [wgrp p g.A g.n g.c (g.bits.length : Nat), g.E]) (fun g => g.i ≤ grp v ∧ g.bits = bits ++ natBits v g.i ∧ Wr g.bs g.bits ∧ OS g.A g.n g.c 5 1 (g.bs.map (.int .u8)) g.E) (fun g => grp v - g.i) (WS.mk 0 A m c E bs bits) ?_ ⟨rfl, rfl, rfl, rfl, rfl, trivial⟩ (sub_front ⟨_, rfl⟩) ?_
    · exact ⟨Nat.zero_le _, by rw [natBits_zero, List.append_nil], hW, hos⟩
    · intro g _f hI
      obtain ⟨hi, hbits, hW0, ho0⟩ := hI
      refine s_seq ?_
      refine s_region ?_
      refine o_val rfl rfl rfl (y_lss rfl rfl) ?_
      refine o_nil ?_
      refine s_seq ?_
      refine s_if rfl (fun h3 => ?_) (fun h4 => ?_)
      · refine s_skip ?_
        refine s_seq ?_
        refine s_block ?_
        refine s_seq ?_
        refine s_region ?_
        refine o_val rfl rfl rfl (y_move (v := (.int _ _)) rfl) ?_
        refine o_val rfl rfl rfl (y_assign (v := (.int _ _)) rfl) ?_
        refine o_nil ?_
        refine s_seq ?_
        refine s_region ?_
        refine o_val rfl rfl rfl (y_assign (v := (.int _ _)) rfl) ?_
        refine o_nil ?_
        refine s_seq ?_
        refine s_seq ?_
        refine s_region ?_
        refine o_val rfl rfl rfl (y_move (v := (.int _ _)) rfl) ?_
        refine o_val rfl rfl rfl (y_add rfl rfl (by simp only [inK]; omega)) ?_
        refine o_val rfl rfl rfl (y_move (v := (.int _ _)) rfl) ?_
        refine o_val rfl rfl rfl (y_lss rfl rfl) ?_
        refine o_nil ?_
        refine s_if rfl (fun h5 => ?_) (fun h6 => ?_)
        · refine s_region ?_
          refine o_val rfl rfl rfl (y_assign (v := (.int _ _)) rfl) ?_
          refine o_nil ?_
          refine s_region ?_
          refine o_val rfl rfl rfl (y_move (v := (.pointer _)) rfl) ?_
          refine o_val rfl rfl rfl (y_move (v := (.int _ _)) rfl) ?_
          refine o_val rfl rfl rfl (y_move (v := (.int _ _)) rfl) ?_
          refine o_val rfl rfl rfl (y_mul rfl rfl (by simp only [inK]; omega)) ?_
          refine o_val rfl rfl rfl (y_shr rfl rfl (by omega)) ?_
          refine o_val rfl rfl rfl (y_and rfl rfl) ?_
          refine o_val rfl rfl rfl (y_move (v := (.int _ _)) rfl) ?_
          refine o_val rfl rfl rfl ((y_or rfl rfl).int (by first | exact nib1 hv (by omega) | exact nib0 hv (by omega))) ?_
          refine o_fn 2 (d := 34) rfl Try.call67 (Put_c _ _ _ _ _ _ _ _ 5 hW0 ho0 (by omega) (by omega) (fun _ => by omega) (by rw [hbits, List.length_append, natBits_len]; omega) _) rfl ?_
          rintro _ _ ⟨rfl, A7, m8, c9, E10, bs11, hW12, ho13, rfl⟩
          refine o_nil ?_
          refine s_region ?_
          refine o_val rfl rfl rfl (y_add rfl rfl (by simp only [inK]; omega)) ?_
          refine o_val rfl rfl rfl (y_move (v := (.int _ _)) rfl) ?_
          refine o_nil ?_
          exact ⟨WS.mk (g.i + 1) A7 m8 c9 E10 bs11 _, (by first | omega | (dsimp only; omega)), ⟨by dsimp only; omega, by dsimp only; rw [hbits, List.append_assoc]; first | rw [nat_more (grp_is v) (by omega)] | rw [nat_last (grp_is v) (by omega) (by omega)], hW12, ho13⟩, ⟨rfl, rfl, rfl, rfl, (congrArg (Value.int _) (by dsimp only; omega)), trivial⟩, sub_front ⟨_, rfl⟩⟩
        · refine s_skip ?_
          refine s_region ?_
          refine o_val rfl rfl rfl (y_move (v := (.pointer _)) rfl) ?_
          refine o_val rfl rfl rfl (y_move (v := (.int _ _)) rfl) ?_
          refine o_val rfl rfl rfl (y_move (v := (.int _ _)) rfl) ?_
          refine o_val rfl rfl rfl (y_mul rfl rfl (by simp only [inK]; omega)) ?_
          refine o_val rfl rfl rfl (y_shr rfl rfl (by omega)) ?_
          refine o_val rfl rfl rfl (y_and rfl rfl) ?_
          refine o_val rfl rfl rfl (y_move (v := (.int _ _)) rfl) ?_
          refine o_val rfl rfl rfl ((y_or rfl rfl).int (by first | exact nib1 hv (by omega) | exact nib0 hv (by omega))) ?_
          refine o_fn 2 (d := 34) rfl Try.call67 (Put_c _ _ _ _ _ _ _ _ 5 hW0 ho0 (by omega) (by omega) (fun _ => by omega) (by rw [hbits, List.length_append, natBits_len]; omega) _) rfl ?_
          rintro _ _ ⟨rfl, A14, m15, c16, E17, bs18, hW19, ho20, rfl⟩
          refine o_nil ?_
          refine s_region ?_
          refine o_val rfl rfl rfl (y_add rfl rfl (by simp only [inK]; omega)) ?_
          refine o_val rfl rfl rfl (y_move (v := (.int _ _)) rfl) ?_
          refine o_nil ?_
          exact ⟨WS.mk (g.i + 1) A14 m15 c16 E17 bs18 _, (by first | omega | (dsimp only; omega)), ⟨by dsimp only; omega, by dsimp only; rw [hbits, List.append_assoc]; first | rw [nat_more (grp_is v) (by omega)] | rw [nat_last (grp_is v) (by omega) (by omega)], hW19, ho20⟩, ⟨rfl, rfl, rfl, rfl, (congrArg (Value.int _) (by dsimp only; omega)), trivial⟩, sub_front ⟨_, rfl⟩⟩
      · refine s_exit ?_
        refine s_seq ?_
        refine s_region ?_
        refine o_val rfl rfl rfl (y_assign (v := (.int _ _)) rfl) ?_
        refine o_nil ?_
        refine s_ret ?_
        have hin : g.i = grp v := by omega
        have e1 : wB bits (natB v) = g.bits := by unfold wB; rw [if_neg hok, hbits, hin]; rfl
        exact ⟨_, [_, _], res1 rfl rfl, ⟨by unfold wE; rw [if_neg hok]; rfl, _, _, _, _, _, by rw [e1]; exact hW0, ho0, by rw [e1]⟩, sub_front ⟨_, rfl⟩⟩

theorem WInt_c (p : Nat) (A : Option Addr) (m c : Nat) (E : Grp) (bs : List Int) (bits : List Bool) (d : Int) (hW : Wr bs bits) (hos : OS A m c 5 1 (bs.map (.int .u8)) E) (hd : inK .i64 d) (hfit : bits.length ≤ 524288) (V : Mem) : CallS Try.prog 70 [.pointer (some ⟨p, 0, none⟩), .int .i64 d].toArray V [wgrp p A m c bits.length, E] (fun r L' => r = .int .i64 (wE bits (natB (zz d))) ∧ ∃ A m c E bs', Wr bs' (wB bits (natB (zz d))) ∧ OS A m c 5 1 (bs'.map (.int .u8)) E ∧ L' = [wgrp p A m c ((wB bits (natB (zz d))).length : Nat), E]) := by
  refine callS Try.func70 rfl rfl (fun w0 => ?_)
  refine s_seq ?_
  refine s_region ?_
  refine o_val rfl rfl rfl (y_assign (v := (.int _ _)) rfl) ?_
  refine o_nil ?_
  refine s_seq ?_
  refine s_region ?_
  refine o_val rfl rfl rfl (y_move (v := (.pointer _)) rfl) ?_
  refine o_val rfl rfl rfl (y_move (v := (.int _ _)) rfl) ?_
  refine o_val rfl rfl rfl (y_conv' Try.runUnderlying3 Try.runUnderlying53 rfl) ?_
  refine o_val rfl rfl rfl (y_shl rfl rfl (by omega)) ?_
  refine o_val rfl rfl rfl (y_move (v := (.int _ _)) rfl) ?_
  refine o_val rfl rfl rfl (y_shr rfl rfl (by omega)) ?_
  refine o_val rfl rfl rfl (y_conv' Try.runUnderlying3 Try.runUnderlying53 rfl) ?_
  refine o_val rfl rfl rfl ((y_xor rfl rfl).int (by exact zz_writer hd)) ?_
  refine o_fn 2 (d := 13) rfl Try.call68 (WNat_c _ _ _ _ _ _ _ (zz d) hW hos (zz_lt hd) hfit _) rfl ?_
  rintro _ _ ⟨rfl, A1, m2, c3, E4, bs5, hW6, ho7, rfl⟩
  refine o_val rfl rfl rfl (y_assign (v := (.int _ _)) rfl) ?_
  refine o_nil ?_
  refine s_ret ?_
  exact ⟨_, [_, _], res1 rfl rfl, ⟨rfl, _, _, _, _, _, hW6, ho7, rfl⟩, sub_front ⟨_, rfl⟩⟩

theorem Base_c {V : Mem} (A : Option Addr) (n c : Nat) (xs : List Int) (h : Cels V [] A (xs.map (.int .i64))) (hn : xs.length = n) (i : Nat) : CallS Try.prog 69 [.slice A n c, .int .i64 i].toArray V [] (fun r L' => r = .int .i64 (base xs i) ∧ L' = []) := by
  refine callS Try.func69 rfl rfl (fun w0 => ?_)
  refine s_seq ?_
  refine s_region ?_
  refine o_val rfl rfl rfl (y_assign (v := (.int _ _)) rfl) ?_
  refine o_nil ?_
  refine s_seq ?_
  refine s_seq ?_
  refine s_region ?_
  refine o_val rfl rfl rfl (y_move (v := (.int _ _)) rfl) ?_
  refine o_val rfl rfl rfl (y_move (v := (.slice _ _ _)) rfl) ?_
  refine o_val rfl rfl rfl (y_len Try.runUnderlying22 rfl) ?_
  refine o_val rfl rfl rfl (y_lss rfl rfl) ?_
  refine o_nil ?_
  refine s_if rfl (fun h1 => ?_) (fun h2 => ?_)
  · refine s_seq ?_
    refine s_region ?_
    refine o_val rfl rfl rfl (y_move (v := (.slice _ _ _)) rfl) ?_
    refine o_val rfl rfl rfl (y_move (v := (.int _ _)) rfl) ?_
    refine o_val rfl rfl rfl (y_index1 Try.runUnderlying22 Try.sizeOf3 (some_int (i := 0) h (by omega)) rfl rfl (by omega)) ?_
    refine o_val rfl rfl rfl (y_load Try.isAgg3 rfl (cel_int h.here (by omega))) ?_
    refine o_val rfl rfl rfl (y_assign (v := (.int _ _)) rfl) ?_
    refine o_nil ?_
    refine s_ret ?_
    exact ⟨_, _, res1 rfl rfl, ⟨rfl, rfl⟩, sub_front ⟨_, rfl⟩⟩
  · refine s_skip ?_
    refine s_seq ?_
    refine s_region ?_
    refine o_val rfl rfl rfl (y_assign (v := (.int _ _)) rfl) ?_
    refine o_nil ?_
    refine s_ret ?_
    exact ⟨_, _, res1 rfl rfl, ⟨congrArg (Value.int .i64) (by unfold base; rw [List.getD_eq_getElem?_getD, List.getElem?_eq_none (by omega)]; rfl), rfl⟩, sub_front ⟨_, rfl⟩⟩

end Go.Proofs.Ytoigljcmpicgfaa.K
