/- Walks: a list read back from its difference. No condition beyond what each statement names. -/
import Derived.Test.YtoigljcmpicgfaaProg
import Derived.Test.YtoigljcmpicgfaaB8
import Derived.Test.YtoigljcmpicgfaaI1
import Derived.Test.YtoigljcmpicgfaaI7
import Derived.Test.YtoigljcmpicgfaaI8
import Derived.Test.YtoigljcmpicgfaaD1
import Derived.Test.YtoigljcmpicgfaaD2
import Derived.Test.YtoigljcmpicgfaaD3
import Derived.Test.YtoigljcmpicgfaaD5
set_option linter.unusedVariables false
set_option linter.unusedSimpArgs false
set_option maxRecDepth 100000
namespace Go.Proofs.Ytoigljcmpicgfaa.K
open Go.RowKit

theorem RInt_c {V : Mem} (rb : Nat) (A : Option Addr) (n c p : Nat) (bs : List Int) (h : Cels V [] A (bs.map (.int .u8))) (hn : bs.length = n) (hbd : ∀ b ∈ bs, 0 ≤ b ∧ b ≤ 255) (hp : p ≤ 8 * n) (hsz : n ≤ 140737488355328) : CallS Try.prog 74 [.pointer (some ⟨rb, 0, none⟩)].toArray V [rgrp rb A n c p] (fun r L' => ∃ v er p', r = .tuple #[.int .i64 v, .int .i64 er] ∧ L' = [rgrp rb A n c p'] ∧ p' ≤ 8 * n ∧ inK .i64 v ∧ intRd bs (8 * n) p v er p' ∧ (er = 0 ∨ er = 14 ∨ er = 3)) := by
  refine callS Try.func74 rfl rfl (fun w0 => ?_)
  refine s_seq ?_
  refine s_region ?_
  refine o_val rfl rfl rfl (y_assign (v := (.int _ _)) rfl) ?_
  refine o_val rfl rfl rfl (y_assign (v := (.int _ _)) rfl) ?_
  refine o_nil ?_
  refine s_seq ?_
  refine s_region ?_
  refine o_val rfl rfl rfl (y_move (v := (.pointer _)) rfl) ?_
  refine o_fn 1 (d := 8) rfl Try.call73 (RNat_c _ A n c p bs h.here.down hn hbd hp hsz) rfl ?_
  rintro _ _ ⟨v1, er2, p3, rfl, rfl, hp4, hv5, hrd6, hkq7⟩
  refine o_val rfl rfl rfl (y_move (v := (.tuple #[(.int _ _), (.int _ _)])) rfl) ?_
  refine o_val rfl rfl rfl (y_extract (v := (.int _ _)) rfl rfl) ?_
  refine o_val rfl rfl rfl (y_extract (v := (.int _ _)) rfl rfl) ?_
  refine o_val rfl rfl rfl (y_assign (v := (.int _ _)) rfl) ?_
  refine o_val rfl rfl rfl (y_assign (v := (.int _ _)) rfl) ?_
  refine o_nil ?_
  refine s_seq ?_
  refine s_seq ?_
  refine s_region ?_
  refine o_val rfl rfl rfl (y_move (v := (.int _ _)) rfl) ?_
  refine o_val rfl rfl rfl (y_neq rfl rfl) ?_
  refine o_nil ?_
  refine s_if rfl (fun h8 => ?_) (fun h9 => ?_)
  · have her := h8
    refine s_seq ?_
    refine s_region ?_
    refine o_val rfl rfl rfl (y_move (v := (.int _ _)) rfl) ?_
    refine o_val rfl rfl rfl (y_assign (v := (.int _ _)) rfl) ?_
    refine o_val rfl rfl rfl (y_assign (v := (.int _ _)) rfl) ?_
    refine o_nil ?_
    refine s_ret ?_
    exact ⟨_, [_], res2 rfl rfl rfl, ⟨_, _, _, rfl, rfl, hp4, ⟨by decide, by decide⟩, fun d hd hb => absurd (hrd6 _ (zz_lt hd) hb).1 her, hkq7⟩, sub_front ⟨_, rfl⟩⟩
  · have her := Decidable.not_not.1 h9
    refine s_skip ?_
    refine s_seq ?_
    refine s_region ?_
    refine o_val rfl rfl rfl (y_move (v := (.int _ _)) rfl) ?_
    refine o_val rfl rfl rfl (y_shr rfl rfl (by omega)) ?_
    refine o_val rfl rfl rfl (y_move (v := (.int _ _)) rfl) ?_
    refine o_val rfl rfl rfl (y_and rfl rfl) ?_
    refine o_val rfl rfl rfl (y_neg' rfl) ?_
    refine o_val rfl rfl rfl (y_xor rfl rfl) ?_
    refine o_val rfl rfl rfl (y_conv' Try.runUnderlying53 Try.runUnderlying3 rfl) ?_
    refine o_val rfl rfl rfl (y_assign (v := (.int _ _)) rfl) ?_
    refine o_val rfl rfl rfl (y_assign (v := (.int _ _)) rfl) ?_
    refine o_nil ?_
    refine s_ret ?_
    exact ⟨_, [_], res2 rfl rfl rfl, ⟨_, _, _, rfl, rfl, hp4, inK_wrap _ _, fun d hd hb => by
      obtain ⟨e1, e2, e3⟩ := hrd6 _ (zz_lt hd) hb
      exact ⟨rfl, by rw [e2]; exact unzz hd, e3⟩, .inl rfl⟩, sub_front ⟨_, rfl⟩⟩

theorem sub_two {L : List Grp} {G : Grp} (j : Nat) (h : nth L j = some G) : Sub [G, []] L := fun _ _ _ hw => by
  obtain ⟨a, b, e, _⟩ := setG_split h
  refine hw.sublist ?_
  rw [e]
  simp only [List.flatten_append, List.flatten_cons, List.flatten_nil, List.append_nil]
  exact (List.sublist_append_left _ _).trans (List.sublist_append_right _ _)

theorem body_k0 (v0 : Int) (w : World) : (Instr.buildSlice 22 1 ([(0, (.int .i64 v0))] : List (Nat × Value)).toArray).run Try.prog w = .ok (.slice (some ⟨w.heap.size, 0, none⟩) 1 1) { w with heap := w.heap.push (.cells ([.int .i64 v0] : List Value).toArray 3 (0, 0)) } := by kernel_rfl
theorem body_c {V : Mem} (rb : Nat) (A : Option Addr) (n c p : Nat) (bs : List Int) (h : Cels V [] A (bs.map (.int .u8))) (hn : bs.length = n) (hbd : ∀ b ∈ bs, 0 ≤ b ∧ b ≤ 255) (hp : p ≤ 8 * n) (hsz : n ≤ 140737488355328) (B : Option Addr) (m d : Nat) (xs : List Int) (h2 : Cels V [] B (xs.map (.int .i64))) (hm : xs.length = m) :
    CallS Try.prog 45 [.pointer (some ⟨rb, 0, none⟩), .slice B m d].toArray V [rgrp rb A n c p] (fun r L' => ∃ R k e zs G er p', r = .tuple #[.slice R k e, .int .i64 er] ∧ OS R k e 3 1 (zs.map (.int .i64)) G ∧ L' = [rgrp rb A n c p', G] ∧ zs.length ≤ 65536 ∧ (er = 0 ∨ er = 14 ∨ er = 3 ∨ er = 2) ∧ ∀ ys, Good bs (8 * n) p xs ys → er = 0 ∧ zs = ys) := by
  refine callS Try.func45 rfl rfl (fun w0 => ?_)
  refine s_seq ?_
  refine s_region ?_
  refine o_val rfl rfl rfl (y_assign (v := (.slice _ _ _)) rfl) ?_
  refine o_val rfl rfl rfl (y_assign (v := (.int _ _)) rfl) ?_
  refine o_nil ?_
  refine s_seq ?_
  refine s_region ?_
  refine o_val rfl rfl rfl (y_move (v := (.pointer _)) rfl) ?_
  refine o_fn 1 (d := 14) rfl Try.call73 (RNat_c _ A n c p bs h.here.down hn hbd hp hsz) rfl ?_
  rintro _ _ ⟨v1, er2, p3, rfl, rfl, hp4, hv5, hrd6, hkq7⟩
  refine o_val rfl rfl rfl (y_move (v := (.tuple #[(.int _ _), (.int _ _)])) rfl) ?_
  refine o_val rfl rfl rfl (y_extract (v := (.int _ _)) rfl rfl) ?_
  refine o_val rfl rfl rfl (y_extract (v := (.int _ _)) rfl rfl) ?_
  refine o_val rfl rfl rfl (y_assign (v := (.int _ _)) rfl) ?_
  refine o_val rfl rfl rfl (y_assign (v := (.int _ _)) rfl) ?_
  refine o_nil ?_
  refine s_seq ?_
  refine s_seq ?_
  refine s_region ?_
  refine o_val rfl rfl rfl (y_move (v := (.int _ _)) rfl) ?_
  refine o_val rfl rfl rfl (y_neq rfl rfl) ?_
  refine o_nil ?_
  refine s_if rfl (fun h8 => ?_) (fun h9 => ?_)
  · have her0 := h8
    refine s_seq ?_
    refine s_region ?_
    refine o_val rfl rfl rfl (y_move (v := (.int _ _)) rfl) ?_
    refine o_val rfl rfl rfl (y_assign (v := (.slice _ _ _)) rfl) ?_
    refine o_val rfl rfl rfl (y_assign (v := (.int _ _)) rfl) ?_
    refine o_nil ?_
    refine s_ret ?_
    exact ⟨_, [rgrp rb A n c _, []], res2 rfl rfl rfl, ⟨none, 0, 0, [], [], _, _, rfl, OS.nil _ _, rfl, by simp, by have := hkq7; omega, fun ys hg => absurd hg (fun hg => her0 (body_start hrd6 ys hg).1)⟩, sub_two 0 rfl⟩
  · have her0 := Decidable.not_not.1 h9
    refine s_skip ?_
    refine s_seq ?_
    refine s_seq ?_
    refine s_region ?_
    refine o_val rfl rfl rfl (y_move (v := (.int _ _)) rfl) ?_
    refine o_val rfl rfl rfl (y_gtr rfl rfl) ?_
    refine o_nil ?_
    refine s_if rfl (fun h10 => ?_) (fun h11 => ?_)
    · have hbig := h10
      refine s_seq ?_
      refine s_region ?_
      refine o_val rfl rfl rfl (y_assign (v := (.slice _ _ _)) rfl) ?_
      refine o_val rfl rfl rfl (y_assign (v := (.int _ _)) rfl) ?_
      refine o_nil ?_
      refine s_ret ?_
      exact ⟨_, [rgrp rb A n c _, []], res2 rfl rfl rfl, ⟨none, 0, 0, [], [], _, _, rfl, OS.nil _ _, rfl, by simp, .inr (.inr (.inr rfl)), fun ys hg => absurd hg (fun hg => by have h1 := (body_start hrd6 ys hg).2.1; have h2 := hg.1; omega)⟩, sub_two 0 rfl⟩
    · have hsm := h11
      refine s_skip ?_
      refine s_seq ?_
      refine s_region ?_
      refine o_val rfl rfl rfl (y_assign (v := (.slice _ _ _)) rfl) ?_
      refine o_nil ?_
      refine s_seq ?_
      refine s_block ?_
      refine s_group ?_
      refine s_loop (γ := G1 × List Int × Nat) (fun g => [(0, .pointer (some ⟨rb, 0, none⟩)), (1, .slice B m d), (6, .int .u64 v1), (8, .slice g.1.A g.2.1.length g.1.c)]) (fun g => [rgrp rb A n c g.2.2, g.1.E]) (fun g => (g.2.1.length : Int) ≤ v1 ∧ OS g.1.A g.2.1.length g.1.c 3 1 (g.2.1.map (.int .i64)) g.1.E ∧ g.2.2 ≤ 8 * n ∧ bodyI bs (8 * n) p xs v1 g.2.2 g.2.1) (fun g => (v1 - g.2.1.length).toNat) ((G1.mk 0 none 0 0 [], [], p3)) ?_ ⟨rfl, rfl, rfl, rfl, trivial⟩ (sub_front ⟨_, rfl⟩) ?_
      · exact ⟨hv5.1, OS.nil _ _, hp4, body_first (by rw [her0] at hrd6; exact hrd6)⟩
      · intro g _f hI
        obtain ⟨hle, ho, hq, hI⟩ := hI
        refine s_seq ?_
        refine s_seq ?_
        refine s_region ?_
        refine o_val rfl rfl rfl (y_move (v := (.slice _ _ _)) rfl) ?_
        refine o_val rfl rfl rfl (y_len Try.runUnderlying22 rfl) ?_
        refine o_val rfl rfl rfl (y_conv Try.runUnderlying3 Try.runUnderlying53 rfl (by simp only [inK]; omega)) ?_
        refine o_val rfl rfl rfl (y_move (v := (.int _ _)) rfl) ?_
        refine o_val rfl rfl rfl (y_lss rfl rfl) ?_
        refine o_nil ?_
        refine s_if rfl (fun h12 => ?_) (fun h13 => ?_)
        · have hlt := h12
          refine s_skip ?_
          refine s_block ?_
          refine s_seq ?_
          refine s_region ?_
          refine o_val rfl rfl rfl (y_move (v := (.pointer _)) rfl) ?_
          refine o_fn 1 (d := 29) rfl Try.call73 (RNat_c _ A n c g.2.2 bs h.here.down hn hbd hq hsz) rfl ?_
          rintro _ _ ⟨v14, er15, p16, rfl, rfl, hp17, hv18, hrd19, hkq20⟩
          refine o_val rfl rfl rfl (y_move (v := (.tuple #[(.int _ _), (.int _ _)])) rfl) ?_
          refine o_val rfl rfl rfl (y_extract (v := (.int _ _)) rfl rfl) ?_
          refine o_val rfl rfl rfl (y_extract (v := (.int _ _)) rfl rfl) ?_
          refine o_val rfl rfl rfl (y_assign (v := (.int _ _)) rfl) ?_
          refine o_val rfl rfl rfl (y_assign (v := (.int _ _)) rfl) ?_
          refine o_nil ?_
          refine s_seq ?_
          refine s_seq ?_
          refine s_region ?_
          refine o_val rfl rfl rfl (y_move (v := (.int _ _)) rfl) ?_
          refine o_val rfl rfl rfl (y_neq rfl rfl) ?_
          refine o_nil ?_
          refine s_if rfl (fun h21 => ?_) (fun h22 => ?_)
          · have her1 := h21
            refine s_seq ?_
            refine s_region ?_
            refine o_val rfl rfl rfl (y_move (v := (.int _ _)) rfl) ?_
            refine o_val rfl rfl rfl (y_assign (v := (.slice _ _ _)) rfl) ?_
            refine o_val rfl rfl rfl (y_assign (v := (.int _ _)) rfl) ?_
            refine o_nil ?_
            refine s_ret ?_
            exact ⟨_, [rgrp rb A n c _, []], res2 rfl rfl rfl, ⟨none, 0, 0, [], [], _, _, rfl, OS.nil _ _, rfl, by simp, by have := hkq20; omega, fun ys hg => absurd hg (body_err hI hlt hrd19 her1 ys)⟩, sub_two 0 rfl⟩
          · have her1 := Decidable.not_not.1 h22
            refine s_skip ?_
            refine s_seq ?_
            refine s_seq ?_
            refine s_region ?_
            refine o_val rfl rfl rfl (y_move (v := (.int _ _)) rfl) ?_
            refine o_val rfl rfl rfl (y_move (v := (.int _ _)) rfl) ?_
            refine o_val rfl rfl rfl (y_move (v := (.slice _ _ _)) rfl) ?_
            refine o_val rfl rfl rfl (y_len Try.runUnderlying22 rfl) ?_
            refine o_val rfl rfl rfl (y_conv Try.runUnderlying3 Try.runUnderlying53 rfl (by simp only [inK]; omega)) ?_
            refine o_val rfl rfl rfl (y_sub rfl rfl (by simp only [inK]; omega)) ?_
            refine o_val rfl rfl rfl (y_gtr rfl rfl) ?_
            refine o_nil ?_
            refine s_if rfl (fun h23 => ?_) (fun h24 => ?_)
            · have hov := h23
              refine s_seq ?_
              refine s_region ?_
              refine o_val rfl rfl rfl (y_assign (v := (.slice _ _ _)) rfl) ?_
              refine o_val rfl rfl rfl (y_assign (v := (.int _ _)) rfl) ?_
              refine o_nil ?_
              refine s_ret ?_
              exact ⟨_, [rgrp rb A n c _, []], res2 rfl rfl rfl, ⟨none, 0, 0, [], [], _, _, rfl, OS.nil _ _, rfl, by simp, .inr (.inr (.inl rfl)), fun ys hg => absurd hg (body_big hI hlt (er := er15) hrd19 (by omega) ys)⟩, sub_two 0 rfl⟩
            · have hfit := h24
              refine s_skip ?_
              refine s_seq ?_
              refine s_seq ?_
              refine s_region ?_
              refine o_val rfl rfl rfl (y_move (v := (.int _ _)) rfl) ?_
              refine o_val rfl rfl rfl (y_move (v := (.int _ _)) rfl) ?_
              refine o_nil ?_
              refine s_block ?_
              refine s_loop (γ := G1 × List Int) (fun u => [(0, .pointer (some ⟨rb, 0, none⟩)), (1, .slice B m d), (6, .int .u64 v1), (8, .slice u.1.A u.2.length u.1.c), (42, .int .u64 v14), (43, .int .u64 u.1.i)]) (fun u => [rgrp rb A n c p16, u.1.E]) (fun u => (u.1.i : Int) ≤ v14 ∧ u.2.length = g.2.1.length + u.1.i ∧ OS u.1.A u.2.length u.1.c 3 1 (u.2.map (.int .i64)) u.1.E ∧ bodyK bs (8 * n) p xs v1 p16 u.2 (v14.toNat - u.1.i)) (fun u => (v14 - u.1.i).toNat) ((G1.mk 0 g.1.A 0 g.1.c g.1.E, g.2.1)) ?_ ⟨rfl, rfl, rfl, rfl, rfl, rfl, trivial⟩ (sub_front ⟨_, rfl⟩) ?_
              · exact ⟨hv18.1, rfl, ho, body_K hI hlt hrd19 hv18.1⟩
              · intro u _f hJ
                obtain ⟨hui, hul, ho2, hK⟩ := hJ
                refine s_seq ?_
                refine s_region ?_
                refine o_val rfl rfl rfl (y_lss rfl rfl) ?_
                refine o_nil ?_
                refine s_seq ?_
                refine s_if rfl (fun h25 => ?_) (fun h26 => ?_)
                · refine s_skip ?_
                  refine s_seq ?_
                  refine s_block ?_
                  refine s_region ?_
                  refine o_val rfl rfl rfl (y_move (v := (.slice _ _ _)) rfl) ?_
                  refine o_val rfl rfl rfl (y_move (v := (.slice _ _ _)) rfl) ?_
                  refine o_val rfl rfl rfl (y_move (v := (.slice _ _ _)) rfl) ?_
                  refine o_val rfl rfl rfl (y_len Try.runUnderlying22 rfl) ?_
                  refine o_fn 0 (d := 49) rfl Try.call69 (Base_c _ _ _ xs h2.here.down hm u.2.length) rfl ?_
                  rintro _ _ ⟨rfl, rfl⟩
                  refine o_lit (vs := [(0, .int _ _)]) rfl rfl (body_k0 _) (fun b27 => ?_)
                  refine o_append (sz := 1) (bytes := 8) (news := [(.int _ _)]) 1 rfl Try.underlying22 Try.type3 rfl rfl rfl rfl rfl ho2 rfl rfl (Src.slice Try.underlying22 (cels_own 2 rfl rfl) rfl (by simp [Value.oneCell']) (by simp)) (by omega) (fun A28 c29 E30 ho31 hn32 => ?_)
                  have ho33 : OS A28 (u.2 ++ [base xs u.2.length]).length c29 3 1 ((u.2 ++ [base xs u.2.length]).map (.int .i64)) E30 := by rw [List.length_append]; simpa using ho31
                  clear ho31
                  refine o_val rfl rfl rfl (y_assign (v := (.slice _ _ _)) rfl) ?_
                  refine o_nil ?_
                  refine s_region ?_
                  refine o_val rfl rfl rfl (y_add rfl rfl (by simp only [inK]; omega)) ?_
                  refine o_val rfl rfl rfl (y_move (v := (.int _ _)) rfl) ?_
                  refine o_nil ?_
                  exact ⟨(G1.mk (u.1.i + 1) A28 0 c29 E30, _), (by first | omega | (dsimp only; omega)), ⟨by dsimp only; omega, by simp only [List.length_append, List.length_singleton]; omega, ho33, body_more (by have e : v14.toNat - u.1.i = v14.toNat - (u.1.i + 1) + 1 := (by omega); rw [e] at hK; exact hK)⟩, ⟨rfl, rfl, rfl, (congrArg (fun k => Value.slice _ k _) (by simp)), rfl, (congrArg (Value.int _) (by dsimp only; omega)), trivial⟩, sub_picks [0, 0] rfl⟩
                · refine s_exit ?_
                  refine s_seq ?_
                  refine s_seq ?_
                  refine s_region ?_
                  have hiv : (u.1.i : Int) = v14 := by omega
                  have hr0 : v14.toNat - u.1.i = 0 := by omega
                  rw [hr0] at hK
                  have hq2 := hp17
                  refine o_val rfl rfl rfl (y_move (v := (.slice _ _ _)) rfl) ?_
                  refine o_val rfl rfl rfl (y_len Try.runUnderlying22 rfl) ?_
                  refine o_val rfl rfl rfl (y_conv Try.runUnderlying3 Try.runUnderlying53 rfl (by simp only [inK]; omega)) ?_
                  refine o_val rfl rfl rfl (y_move (v := (.int _ _)) rfl) ?_
                  refine o_val rfl rfl rfl (y_eql rfl rfl) ?_
                  refine o_nil ?_
                  refine s_if rfl (fun h34 => ?_) (fun h35 => ?_)
                  · have heq := h34
                    refine s_exit ?_
                    refine s_seq ?_
                    refine s_region ?_
                    refine o_val rfl rfl rfl (y_move (v := (.slice _ _ _)) rfl) ?_
                    refine o_val rfl rfl rfl (y_assign (v := (.slice _ _ _)) rfl) ?_
                    refine o_val rfl rfl rfl (y_assign (v := (.int _ _)) rfl) ?_
                    refine o_nil ?_
                    refine s_ret ?_
                    exact ⟨_, [_, _], res2 rfl rfl rfl, ⟨_, _, _, _, _, _, _, rfl, ho2, rfl, by omega, .inl rfl, body_done hK (by omega)⟩, sub_picks [0, 0] rfl⟩
                  · have hne := h35
                    refine s_skip ?_
                    refine s_seq ?_
                    refine s_region ?_
                    refine o_val rfl rfl rfl (y_move (v := (.pointer _)) rfl) ?_
                    refine o_fn 1 (d := 60) rfl Try.call74 (RInt_c _ A n c _ bs h.here.down hn hbd hq2 hsz) rfl ?_
                    rintro _ _ ⟨v36, er37, p38, rfl, rfl, hp39, hv40, hrd41, hkq42⟩
                    refine o_val rfl rfl rfl (y_move (v := (.tuple #[(.int _ _), (.int _ _)])) rfl) ?_
                    refine o_val rfl rfl rfl (y_extract (v := (.int _ _)) rfl rfl) ?_
                    refine o_val rfl rfl rfl (y_extract (v := (.int _ _)) rfl rfl) ?_
                    refine o_val rfl rfl rfl (y_assign (v := (.int _ _)) rfl) ?_
                    refine o_val rfl rfl rfl (y_assign (v := (.int _ _)) rfl) ?_
                    refine o_nil ?_
                    refine s_seq ?_
                    refine s_seq ?_
                    refine s_region ?_
                    refine o_val rfl rfl rfl (y_move (v := (.int _ _)) rfl) ?_
                    refine o_val rfl rfl rfl (y_neq rfl rfl) ?_
                    refine o_nil ?_
                    refine s_if rfl (fun h43 => ?_) (fun h44 => ?_)
                    · have her2 := h43
                      refine s_seq ?_
                      refine s_region ?_
                      refine o_val rfl rfl rfl (y_move (v := (.int _ _)) rfl) ?_
                      refine o_val rfl rfl rfl (y_assign (v := (.slice _ _ _)) rfl) ?_
                      refine o_val rfl rfl rfl (y_assign (v := (.int _ _)) rfl) ?_
                      refine o_nil ?_
                      refine s_ret ?_
                      exact ⟨_, [rgrp rb A n c _, []], res2 rfl rfl rfl, ⟨none, 0, 0, [], [], _, _, rfl, OS.nil _ _, rfl, by simp, by have := hkq42; omega, fun ys hg => absurd hg (body_interr hK (by omega) hrd41 her2 ys)⟩, sub_two 0 rfl⟩
                    · have her2 := Decidable.not_not.1 h44
                      refine s_skip ?_
                      refine s_region ?_
                      refine o_val rfl rfl rfl (y_move (v := (.slice _ _ _)) rfl) ?_
                      refine o_val rfl rfl rfl (y_move (v := (.slice _ _ _)) rfl) ?_
                      refine o_val rfl rfl rfl (y_move (v := (.slice _ _ _)) rfl) ?_
                      refine o_val rfl rfl rfl (y_len Try.runUnderlying22 rfl) ?_
                      refine o_fn 0 (d := 70) rfl Try.call69 (Base_c _ _ _ xs h2.here.down hm u.2.length) rfl ?_
                      rintro _ _ ⟨rfl, rfl⟩
                      refine o_val rfl rfl rfl (y_move (v := (.int _ _)) rfl) ?_
                      refine o_val rfl rfl rfl (y_add' rfl rfl) ?_
                      refine o_lit (vs := [(0, .int _ _)]) rfl rfl (body_k0 _) (fun b45 => ?_)
                      refine o_append (sz := 1) (bytes := 8) (news := [(.int _ _)]) 1 rfl Try.underlying22 Try.type3 rfl rfl rfl rfl rfl ho2 rfl rfl (Src.slice Try.underlying22 (cels_own 2 rfl rfl) rfl (by simp [Value.oneCell']) (by simp)) (by omega) (fun A46 c47 E48 ho49 hn50 => ?_)
                      have ho51 : OS A46 (u.2 ++ [IntKind.i64.wrap (base xs u.2.length + v36)]).length c47 3 1 ((u.2 ++ [IntKind.i64.wrap (base xs u.2.length + v36)]).map (.int .i64)) E48 := by rw [List.length_append]; simpa using ho49
                      clear ho49
                      refine o_val rfl rfl rfl (y_assign (v := (.slice _ _ _)) rfl) ?_
                      refine o_nil ?_
                      exact ⟨(G1.mk 0 A46 0 c47 E48, _, p38), (by simp only [List.length_append, List.length_singleton]; omega), ⟨by simp only [List.length_append, List.length_singleton]; omega, ho51, hp39, body_next hK hne hrd41⟩, ⟨rfl, rfl, rfl, (congrArg (fun k => Value.slice _ k _) (by simp)), trivial⟩, sub_picks [0, 0] rfl⟩
        · have hend := h13
          refine s_exit ?_
          refine s_seq ?_
          refine s_region ?_
          refine o_val rfl rfl rfl (y_move (v := (.slice _ _ _)) rfl) ?_
          refine o_val rfl rfl rfl (y_assign (v := (.slice _ _ _)) rfl) ?_
          refine o_val rfl rfl rfl (y_assign (v := (.int _ _)) rfl) ?_
          refine o_nil ?_
          refine s_ret ?_
          exact ⟨_, [_, _], res2 rfl rfl rfl, ⟨_, _, _, _, _, _, _, rfl, ho, rfl, by omega, .inl rfl, body_end hI (by omega)⟩, sub_picks [0, 0] rfl⟩

end Go.Proofs.Ytoigljcmpicgfaa.K
