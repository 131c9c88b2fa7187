/- Walks: numbers read in groups of bits. No condition beyond what each statement names. -/
import Derived.Test.YtoigljcmpicgfaaProg
import Derived.Test.YtoigljcmpicgfaaB7
import Derived.Test.YtoigljcmpicgfaaI1
import Derived.Test.YtoigljcmpicgfaaI7
import Derived.Test.YtoigljcmpicgfaaD1
set_option linter.unusedVariables false
set_option linter.unusedSimpArgs false
set_option maxRecDepth 100000
namespace Go.Proofs.Ytoigljcmpicgfaa.K
open Go.RowKit

theorem bOr_bd (a b : Int) : 0 ≤ bOr .u64 a b ∧ bOr .u64 a b ≤ 18446744073709551615 := by
  have : inK .u64 (bOr .u64 a b) := by unfold bOr; exact inK_wrap _ _
  exact this

theorem RNat_c {V : Mem} (rb : Nat) (A : Option Addr) (n c p : Nat) (bs : List Int) (h : Cels V [] A (bs.map (.int .u8))) (hn : bs.length = n) (hbd : ∀ b ∈ bs, 0 ≤ b ∧ b ≤ 255) (hp : p ≤ 8 * n) (hsz : n ≤ 140737488355328) : CallS Try.prog 73 [.pointer (some ⟨rb, 0, none⟩)].toArray V [rgrp rb A n c p] (fun r L' => ∃ v er p', r = .tuple #[.int .u64 v, .int .i64 er] ∧ L' = [rgrp rb A n c p'] ∧ p' ≤ 8 * n ∧ (0 ≤ v ∧ v ≤ 18446744073709551615) ∧ natRd bs (8 * n) p v er p' ∧ (er = 0 ∨ er = 14 ∨ er = 3)) := by
  refine callS Try.func73 rfl rfl (fun w0 => ?_)
  refine s_seq ?_
  refine s_region ?_
  refine o_val rfl rfl rfl (y_assign (v := (.int _ _)) rfl) ?_
  refine o_val rfl rfl rfl (y_assign (v := (.int _ _)) rfl) ?_
  refine o_nil ?_
  refine s_seq ?_
  refine s_region ?_
  refine o_val rfl rfl rfl (y_move (v := (.pointer _)) rfl) ?_
  refine o_val rfl rfl rfl (y_nilCheck rfl) ?_
  refine o_val rfl rfl rfl (y_field0 Try.runUnderlying158 rfl Try.sizeOf3 rfl rfl) ?_
  refine o_val rfl rfl rfl (y_load Try.isAgg3 rfl (cel_own 0 rfl rfl)) ?_
  refine o_val rfl rfl rfl (y_assign (v := (.int _ _)) rfl) ?_
  refine o_nil ?_
  refine s_seq ?_
  refine s_region ?_
  refine o_val rfl rfl rfl (y_assign (v := (.int _ _)) rfl) ?_
  refine o_nil ?_
  refine s_seq ?_
  refine s_region ?_
  refine o_val rfl rfl rfl (y_assign (v := (.int _ _)) rfl) ?_
  refine o_nil ?_
  refine s_block ?_
  refine s_loop (γ := Nat × Int) (fun g => [(0, .pointer (some ⟨rb, 0, none⟩)), (4, .int .i64 p), (5, .int .u64 g.2), (6, .int .i64 g.1)]) (fun g => [rgrp rb A n c (p + 5 * g.1)]) (fun g => g.1 ≤ 16 ∧ p + 5 * g.1 ≤ 8 * n ∧ (0 ≤ g.2 ∧ g.2 ≤ 18446744073709551615) ∧ accOK bs (8 * n) p g.1 g.2) (fun g => 17 - g.1) ((0, 0)) ?_ ⟨rfl, rfl, rfl, rfl, trivial⟩ (sub_front ⟨_, rfl⟩) ?_
  · exact ⟨Nat.zero_le _, hp, by decide, acc_zero _ _ _⟩
  · intro g _f hI
    obtain ⟨hi, hpg, hab, hacc⟩ := hI
    refine s_seq ?_
    refine s_block ?_
    refine s_seq ?_
    refine s_region ?_
    refine o_val rfl rfl rfl (y_move (v := (.pointer _)) rfl) ?_
    refine o_fn 1 (d := 17) rfl Try.call44 (Get_c _ A n c (p + 5 * g.1) bs h.here.down hn hbd hpg hsz 5 (by omega)) rfl ?_
    rintro _ _ ⟨rfl, rfl⟩
    refine o_val rfl rfl rfl (y_move (v := (.tuple #[(.int _ _), (.int _ _)])) rfl) ?_
    refine o_val rfl rfl rfl (y_extract (v := (.int _ _)) rfl rfl) ?_
    refine o_val rfl rfl rfl (y_extract (v := (.int _ _)) rfl rfl) ?_
    refine o_val rfl rfl rfl (y_assign (v := (.int _ _)) rfl) ?_
    refine o_val rfl rfl rfl (y_assign (v := (.int _ _)) rfl) ?_
    refine o_nil ?_
    refine s_seq ?_
    refine s_seq ?_
    refine s_region ?_
    refine o_val rfl rfl rfl (y_move (v := (.int _ _)) rfl) ?_
    refine o_split rfl rfl rfl (y_eql rfl rfl) (fun p1 => ?_) (fun p2 => ?_)
    · have hge0 := p1
      have hge : ¬ 8 * n < p + 5 * g.1 + 5 := by unfold ge at p1; split at p1 <;> first | assumption | exact absurd p1 (by decide)
      have hgp : gp (8 * n) (p + 5 * g.1) 5 = p + 5 * g.1 + 5 := by unfold gp; rw [if_neg hge]
      refine o_val rfl rfl rfl (y_move (v := (.bool _)) rfl) ?_
      refine o_guard_yes rfl rfl ?_
      refine o_val rfl rfl rfl (y_move (v := (.int _ _)) rfl) ?_
      refine o_guard_yes rfl rfl ?_
      refine o_split rfl rfl rfl (y_eql rfl rfl) (fun p3 => ?_) (fun p4 => ?_)
      · have h16 := p3
        refine o_guard_yes rfl rfl ?_
        refine o_val rfl rfl rfl (y_move (v := (.bool _)) rfl) ?_
        refine o_guard_no rfl rfl rfl rfl rfl ?_
        refine o_guard_no rfl rfl rfl rfl rfl ?_
        refine o_guard_no rfl rfl rfl rfl rfl ?_
        refine o_guard_un rfl rfl rfl rfl ?_
        refine o_guard_un rfl rfl rfl rfl ?_
        refine o_guard_no rfl rfl rfl rfl rfl ?_
        refine o_guard_yes rfl rfl ?_
        refine o_val rfl rfl rfl (y_pick_t (v := (.bool _)) rfl rfl) ?_
        refine o_val rfl rfl rfl (y_pick_t (v := (.bool _)) rfl rfl) ?_
        refine o_nil ?_
        refine s_then rfl ?_
        refine s_region ?_
        refine o_val rfl rfl rfl (y_assign (v := (.int _ _)) rfl) ?_
        refine o_nil ?_
        refine s_seq ?_
        refine s_seq ?_
        refine s_region ?_
        refine o_val rfl rfl rfl (y_move (v := (.int _ _)) rfl) ?_
        refine o_val rfl rfl rfl (y_neq rfl rfl) ?_
        refine o_nil ?_
        refine s_if rfl (fun h5 => ?_) (fun h6 => ?_)
        · refine s_seq ?_
          refine s_region ?_
          refine o_val rfl rfl rfl (y_move (v := (.pointer _)) rfl) ?_
          refine o_val rfl rfl rfl (y_move (v := (.int _ _)) rfl) ?_
          refine o_val rfl rfl rfl (y_nilCheck rfl) ?_
          refine o_val rfl rfl rfl (y_field0 Try.runUnderlying158 rfl Try.sizeOf3 rfl rfl) ?_
          refine o_store (v := (.int _ _)) 0 rfl Try.sizeOf3 rfl rfl rfl rfl ?_
          refine o_nil ?_
          refine s_seq ?_
          refine s_region ?_
          refine o_val rfl rfl rfl (y_move (v := (.int _ _)) rfl) ?_
          refine o_val rfl rfl rfl (y_assign (v := (.int _ _)) rfl) ?_
          refine o_val rfl rfl rfl (y_assign (v := (.int _ _)) rfl) ?_
          refine o_nil ?_
          refine s_ret ?_
          exact ⟨_, [_], res2 rfl rfl rfl, ⟨_, _, p, rfl, rfl, hp, ⟨by decide, by decide⟩, by first | exact acc_short hacc (by assumption) | exact acc_long hacc (by omega) | exact acc_nil hacc hge (by assumption) (by omega), by first | exact .inr (.inr rfl) | exact .inr (.inl (by unfold ge; rw [if_pos hlt]))⟩, sub_front ⟨_, rfl⟩⟩
        · exact absurd (by decide) h6
      · have h16 := p4
        refine o_guard_yes rfl rfl ?_
        refine o_val rfl rfl rfl (y_move (v := (.bool _)) rfl) ?_
        refine o_guard_yes rfl rfl ?_
        refine o_val rfl rfl rfl (y_move (v := (.int _ _)) rfl) ?_
        refine o_guard_yes rfl rfl ?_
        refine o_split rfl rfl rfl (y_eql rfl rfl) (fun p7 => ?_) (fun p8 => ?_)
        · have hz0 := p7
          refine o_guard_yes rfl rfl ?_
          refine o_val rfl rfl rfl (y_move (v := (.bool _)) rfl) ?_
          refine o_guard_yes rfl rfl ?_
          refine o_val rfl rfl rfl (y_move (v := (.int _ _)) rfl) ?_
          refine o_guard_yes rfl rfl ?_
          refine o_split rfl rfl rfl (y_gtr rfl rfl) (fun p9 => ?_) (fun p10 => ?_)
          · refine o_guard_yes rfl rfl ?_
            refine o_val rfl rfl rfl (y_pick_t (v := (.bool _)) rfl rfl) ?_
            refine o_guard_yes rfl rfl ?_
            refine o_val rfl rfl rfl (y_pick_f (v := (.bool _)) rfl rfl) ?_
            refine o_val rfl rfl rfl (y_pick_t (v := (.bool _)) rfl rfl) ?_
            refine o_nil ?_
            refine s_then rfl ?_
            refine s_region ?_
            refine o_val rfl rfl rfl (y_assign (v := (.int _ _)) rfl) ?_
            refine o_nil ?_
            refine s_seq ?_
            refine s_seq ?_
            refine s_region ?_
            refine o_val rfl rfl rfl (y_move (v := (.int _ _)) rfl) ?_
            refine o_val rfl rfl rfl (y_neq rfl rfl) ?_
            refine o_nil ?_
            refine s_if rfl (fun h11 => ?_) (fun h12 => ?_)
            · refine s_seq ?_
              refine s_region ?_
              refine o_val rfl rfl rfl (y_move (v := (.pointer _)) rfl) ?_
              refine o_val rfl rfl rfl (y_move (v := (.int _ _)) rfl) ?_
              refine o_val rfl rfl rfl (y_nilCheck rfl) ?_
              refine o_val rfl rfl rfl (y_field0 Try.runUnderlying158 rfl Try.sizeOf3 rfl rfl) ?_
              refine o_store (v := (.int _ _)) 0 rfl Try.sizeOf3 rfl rfl rfl rfl ?_
              refine o_nil ?_
              refine s_seq ?_
              refine s_region ?_
              refine o_val rfl rfl rfl (y_move (v := (.int _ _)) rfl) ?_
              refine o_val rfl rfl rfl (y_assign (v := (.int _ _)) rfl) ?_
              refine o_val rfl rfl rfl (y_assign (v := (.int _ _)) rfl) ?_
              refine o_nil ?_
              refine s_ret ?_
              exact ⟨_, [_], res2 rfl rfl rfl, ⟨_, _, p, rfl, rfl, hp, ⟨by decide, by decide⟩, by first | exact acc_short hacc (by assumption) | exact acc_long hacc (by omega) | exact acc_nil hacc hge (by assumption) (by omega), by first | exact .inr (.inr rfl) | exact .inr (.inl (by unfold ge; rw [if_pos hlt]))⟩, sub_front ⟨_, rfl⟩⟩
            · exact absurd (by decide) h12
          · refine o_guard_yes rfl rfl ?_
            refine o_val rfl rfl rfl (y_pick_t (v := (.bool _)) rfl rfl) ?_
            refine o_guard_yes rfl rfl ?_
            refine o_val rfl rfl rfl (y_pick_f (v := (.bool _)) rfl rfl) ?_
            refine o_val rfl rfl rfl (y_pick_t (v := (.bool _)) rfl rfl) ?_
            refine o_nil ?_
            refine s_else rfl ?_
            refine s_skip ?_
            refine s_seq ?_
            refine s_seq ?_
            refine s_region ?_
            refine o_val rfl rfl rfl (y_move (v := (.int _ _)) rfl) ?_
            refine o_val rfl rfl rfl (y_neq rfl rfl) ?_
            refine o_nil ?_
            refine s_if rfl (fun h13 => ?_) (fun h14 => ?_)
            · exact absurd hge0 h13
            · refine s_skip ?_
              refine s_seq ?_
              refine s_region ?_
              refine o_val rfl rfl rfl (y_move (v := (.int _ _)) rfl) ?_
              refine o_val rfl rfl rfl (y_move (v := (.int _ _)) rfl) ?_
              refine o_val rfl rfl rfl (y_and rfl rfl) ?_
              refine o_val rfl rfl rfl (y_move (v := (.int _ _)) rfl) ?_
              refine o_val rfl rfl rfl (y_mul rfl rfl (by simp only [inK]; omega)) ?_
              refine o_val rfl rfl rfl (y_shl rfl rfl (by omega)) ?_
              refine o_val rfl rfl rfl (y_or rfl rfl) ?_
              refine o_val rfl rfl rfl (y_assign (v := (.int _ _)) rfl) ?_
              refine o_nil ?_
              refine s_seq ?_
              refine s_region ?_
              refine o_val rfl rfl rfl (y_move (v := (.int _ _)) rfl) ?_
              refine o_val rfl rfl rfl (y_lss rfl rfl) ?_
              refine o_nil ?_
              refine s_if rfl (fun h15 => ?_) (fun h16 => ?_)
              · refine s_seq ?_
                refine s_region ?_
                refine o_val rfl rfl rfl (y_move (v := (.int _ _)) rfl) ?_
                refine o_val rfl rfl rfl (y_assign (v := (.int _ _)) rfl) ?_
                refine o_val rfl rfl rfl (y_assign (v := (.int _ _)) rfl) ?_
                refine o_nil ?_
                refine s_ret ?_
                exact ⟨_, [_], res2 rfl rfl rfl, ⟨_, _, (p + 5 * g.1 + 5), rfl, by rw [hgp], by omega, bOr_bd _ _, acc_done hacc (by omega) hge (by assumption), .inl rfl⟩, sub_front ⟨_, rfl⟩⟩
              · refine s_skip ?_
                refine s_region ?_
                refine o_val rfl rfl rfl (y_move (v := (.int _ _)) rfl) ?_
                refine o_val rfl rfl rfl (y_add rfl rfl (by simp only [inK]; omega)) ?_
                refine o_val rfl rfl rfl (y_assign (v := (.int _ _)) rfl) ?_
                refine o_nil ?_
                exact ⟨(g.1 + 1, _), (by first | omega | (dsimp only; omega)), ⟨by dsimp only; omega, by dsimp only; omega, bOr_bd _ _, acc_step hacc (by omega) hge (by assumption)⟩, ⟨rfl, rfl, rfl, (congrArg (Value.int _) (by dsimp only; omega)), trivial⟩, (by rw [hgp]; exact sub_front ⟨_, rfl⟩)⟩
        · have hz0 := p8
          refine o_guard_yes rfl rfl ?_
          refine o_val rfl rfl rfl (y_move (v := (.bool _)) rfl) ?_
          refine o_guard_no rfl rfl rfl rfl rfl ?_
          refine o_guard_no rfl rfl rfl rfl rfl ?_
          refine o_guard_yes rfl rfl ?_
          refine o_val rfl rfl rfl (y_pick_f (v := (.bool _)) rfl rfl) ?_
          refine o_guard_yes rfl rfl ?_
          refine o_val rfl rfl rfl (y_pick_f (v := (.bool _)) rfl rfl) ?_
          refine o_val rfl rfl rfl (y_pick_t (v := (.bool _)) rfl rfl) ?_
          refine o_nil ?_
          refine s_else rfl ?_
          refine s_skip ?_
          refine s_seq ?_
          refine s_seq ?_
          refine s_region ?_
          refine o_val rfl rfl rfl (y_move (v := (.int _ _)) rfl) ?_
          refine o_val rfl rfl rfl (y_neq rfl rfl) ?_
          refine o_nil ?_
          refine s_if rfl (fun h17 => ?_) (fun h18 => ?_)
          · exact absurd hge0 h17
          · refine s_skip ?_
            refine s_seq ?_
            refine s_region ?_
            refine o_val rfl rfl rfl (y_move (v := (.int _ _)) rfl) ?_
            refine o_val rfl rfl rfl (y_move (v := (.int _ _)) rfl) ?_
            refine o_val rfl rfl rfl (y_and rfl rfl) ?_
            refine o_val rfl rfl rfl (y_move (v := (.int _ _)) rfl) ?_
            refine o_val rfl rfl rfl (y_mul rfl rfl (by simp only [inK]; omega)) ?_
            refine o_val rfl rfl rfl (y_shl rfl rfl (by omega)) ?_
            refine o_val rfl rfl rfl (y_or rfl rfl) ?_
            refine o_val rfl rfl rfl (y_assign (v := (.int _ _)) rfl) ?_
            refine o_nil ?_
            refine s_seq ?_
            refine s_region ?_
            refine o_val rfl rfl rfl (y_move (v := (.int _ _)) rfl) ?_
            refine o_val rfl rfl rfl (y_lss rfl rfl) ?_
            refine o_nil ?_
            refine s_if rfl (fun h19 => ?_) (fun h20 => ?_)
            · refine s_seq ?_
              refine s_region ?_
              refine o_val rfl rfl rfl (y_move (v := (.int _ _)) rfl) ?_
              refine o_val rfl rfl rfl (y_assign (v := (.int _ _)) rfl) ?_
              refine o_val rfl rfl rfl (y_assign (v := (.int _ _)) rfl) ?_
              refine o_nil ?_
              refine s_ret ?_
              exact ⟨_, [_], res2 rfl rfl rfl, ⟨_, _, (p + 5 * g.1 + 5), rfl, by rw [hgp], by omega, bOr_bd _ _, acc_done hacc (by omega) hge (by assumption), .inl rfl⟩, sub_front ⟨_, rfl⟩⟩
            · refine s_skip ?_
              refine s_region ?_
              refine o_val rfl rfl rfl (y_move (v := (.int _ _)) rfl) ?_
              refine o_val rfl rfl rfl (y_add rfl rfl (by simp only [inK]; omega)) ?_
              refine o_val rfl rfl rfl (y_assign (v := (.int _ _)) rfl) ?_
              refine o_nil ?_
              exact ⟨(g.1 + 1, _), (by first | omega | (dsimp only; omega)), ⟨by dsimp only; omega, by dsimp only; omega, bOr_bd _ _, acc_step hacc (by omega) hge (by assumption)⟩, ⟨rfl, rfl, rfl, (congrArg (Value.int _) (by dsimp only; omega)), trivial⟩, (by rw [hgp]; exact sub_front ⟨_, rfl⟩)⟩
    · have hne0 := p2
      have hlt : 8 * n < p + 5 * g.1 + 5 := by unfold ge at p2; split at p2 <;> first | assumption | exact absurd rfl p2
      refine o_val rfl rfl rfl (y_move (v := (.bool _)) rfl) ?_
      refine o_guard_no rfl rfl rfl rfl rfl ?_
      refine o_guard_no rfl rfl rfl rfl rfl ?_
      refine o_guard_no rfl rfl rfl rfl rfl ?_
      refine o_guard_un rfl rfl rfl rfl ?_
      refine o_guard_un rfl rfl rfl rfl ?_
      refine o_guard_un rfl rfl rfl rfl ?_
      refine o_guard_un rfl rfl rfl rfl ?_
      refine o_guard_un rfl rfl rfl rfl ?_
      refine o_guard_un rfl rfl rfl rfl ?_
      refine o_guard_no rfl rfl rfl rfl rfl ?_
      refine o_val rfl rfl rfl (y_pick_f (v := (.bool _)) rfl rfl) ?_
      refine o_nil ?_
      refine s_else rfl ?_
      refine s_skip ?_
      refine s_seq ?_
      refine s_seq ?_
      refine s_region ?_
      refine o_val rfl rfl rfl (y_move (v := (.int _ _)) rfl) ?_
      refine o_val rfl rfl rfl (y_neq rfl rfl) ?_
      refine o_nil ?_
      refine s_if rfl (fun h21 => ?_) (fun h22 => ?_)
      · refine s_seq ?_
        refine s_region ?_
        refine o_val rfl rfl rfl (y_move (v := (.pointer _)) rfl) ?_
        refine o_val rfl rfl rfl (y_move (v := (.int _ _)) rfl) ?_
        refine o_val rfl rfl rfl (y_nilCheck rfl) ?_
        refine o_val rfl rfl rfl (y_field0 Try.runUnderlying158 rfl Try.sizeOf3 rfl rfl) ?_
        refine o_store (v := (.int _ _)) 0 rfl Try.sizeOf3 rfl rfl rfl rfl ?_
        refine o_nil ?_
        refine s_seq ?_
        refine s_region ?_
        refine o_val rfl rfl rfl (y_move (v := (.int _ _)) rfl) ?_
        refine o_val rfl rfl rfl (y_assign (v := (.int _ _)) rfl) ?_
        refine o_val rfl rfl rfl (y_assign (v := (.int _ _)) rfl) ?_
        refine o_nil ?_
        refine s_ret ?_
        exact ⟨_, [_], res2 rfl rfl rfl, ⟨_, _, p, rfl, rfl, hp, ⟨by decide, by decide⟩, by first | exact acc_short hacc (by assumption) | exact acc_long hacc (by omega) | exact acc_nil hacc hge (by assumption) (by omega), by first | exact .inr (.inr rfl) | exact .inr (.inl (by unfold ge; rw [if_pos hlt]))⟩, sub_front ⟨_, rfl⟩⟩
      · exact absurd hne0 h22

end Go.Proofs.Ytoigljcmpicgfaa.K
