/- Walks: a list read back from its difference. No condition beyond what each statement names. -/
import Derived.Test.YtppciokaldmipaaProg
import Derived.Test.YtppciokaldmipaaB8
import Derived.Test.YtppciokaldmipaaI1
import Derived.Test.YtppciokaldmipaaI7
import Derived.Test.YtppciokaldmipaaI8
import Derived.Test.YtppciokaldmipaaD1
import Derived.Test.YtppciokaldmipaaD2
import Derived.Test.YtppciokaldmipaaD3
import Derived.Test.YtppciokaldmipaaD5
set_option linter.unusedVariables false
set_option linter.unusedSimpArgs false
set_option maxRecDepth 100000
namespace Go.Proofs.Ytppciokaldmipaa.K
open Go.RowKit

theorem RInt_c {V : Mem} (rb : Nat) (A : Option Addr) (n c p : Nat) (bs : List Int) (h : Cels V [] A (bs.map (.int .u8))) (hn : bs.length = n) (hbd : ∀ b ∈ bs, 0 ≤ b ∧ b ≤ 255) (hp : p ≤ 8 * n) (hsz : n ≤ 140737488355328) : CallS Try.prog 114 [.pointer (some ⟨rb, 0, none⟩)].toArray V [rgrp rb A n c p] (fun r L' => ∃ v er p', r = .tuple #[.int .i64 v, .int .i64 er] ∧ L' = [rgrp rb A n c p'] ∧ p' ≤ 8 * n ∧ inK .i64 v ∧ intRd bs (8 * n) p v er p') := by
  refine callS Try.func114 rfl rfl (fun w0 => ?_)
  refine s_seq ?_
  refine s_region ?_
  refine o_val rfl rfl rfl (y_assign (v := (.int _ _)) rfl) ?_
  refine o_val rfl rfl rfl (y_assign (v := (.int _ _)) rfl) ?_
  refine o_nil ?_
  refine s_seq ?_
  refine s_region ?_
  refine o_val rfl rfl rfl (y_move (v := (.pointer _)) rfl) ?_
  refine o_fn 1 (d := 8) rfl Try.call113 (RNat_c _ A n c p bs h.here.down hn hbd hp hsz) rfl ?_
  rintro _ _ ⟨v1, er2, p3, rfl, rfl, hp4, hv5, hrd6⟩
  refine o_val rfl rfl rfl (y_move (v := (.tuple #[(.int _ _), (.int _ _)])) rfl) ?_
  refine o_val rfl rfl rfl (y_extract (v := (.int _ _)) rfl rfl) ?_
  refine o_val rfl rfl rfl (y_extract (v := (.int _ _)) rfl rfl) ?_
  refine o_val rfl rfl rfl (y_assign (v := (.int _ _)) rfl) ?_
  refine o_val rfl rfl rfl (y_assign (v := (.int _ _)) rfl) ?_
  refine o_nil ?_
  refine s_seq ?_
  refine s_seq ?_
  refine s_region ?_
  refine o_val rfl rfl rfl (y_move (v := (.int _ _)) rfl) ?_
  refine o_val rfl rfl rfl (y_neq rfl rfl) ?_
  refine o_nil ?_
  refine s_if rfl (fun h7 => ?_) (fun h8 => ?_)
  · have her := h7
    refine s_seq ?_
    refine s_region ?_
    refine o_val rfl rfl rfl (y_move (v := (.int _ _)) rfl) ?_
    refine o_val rfl rfl rfl (y_assign (v := (.int _ _)) rfl) ?_
    refine o_val rfl rfl rfl (y_assign (v := (.int _ _)) rfl) ?_
    refine o_nil ?_
    refine s_ret ?_
    exact ⟨_, [_], res2 rfl rfl rfl, ⟨_, _, _, rfl, rfl, hp4, ⟨by decide, by decide⟩, fun d hd hb => absurd (hrd6 _ (zz_lt hd) hb).1 her⟩, sub_front ⟨_, rfl⟩⟩
  · have her := Decidable.not_not.1 h8
    refine s_skip ?_
    refine s_seq ?_
    refine s_region ?_
    refine o_val rfl rfl rfl (y_move (v := (.int _ _)) rfl) ?_
    refine o_val rfl rfl rfl (y_shr rfl rfl (by omega)) ?_
    refine o_val rfl rfl rfl (y_move (v := (.int _ _)) rfl) ?_
    refine o_val rfl rfl rfl (y_and rfl rfl) ?_
    refine o_val rfl rfl rfl (y_neg' rfl) ?_
    refine o_val rfl rfl rfl (y_xor rfl rfl) ?_
    refine o_val rfl rfl rfl (y_conv' Try.runUnderlying107 Try.runUnderlying3 rfl) ?_
    refine o_val rfl rfl rfl (y_assign (v := (.int _ _)) rfl) ?_
    refine o_val rfl rfl rfl (y_assign (v := (.int _ _)) rfl) ?_
    refine o_nil ?_
    refine s_ret ?_
    exact ⟨_, [_], res2 rfl rfl rfl, ⟨_, _, _, rfl, rfl, hp4, inK_wrap _ _, fun d hd hb => by
      obtain ⟨e1, e2, e3⟩ := hrd6 _ (zz_lt hd) hb
      exact ⟨rfl, by rw [e2]; exact unzz hd, e3⟩⟩, sub_front ⟨_, rfl⟩⟩

theorem sub_two {L : List Grp} {G : Grp} (j : Nat) (h : nth L j = some G) : Sub [G, []] L := fun _ _ _ hw => by
  obtain ⟨a, b, e, _⟩ := setG_split h
  refine hw.sublist ?_
  rw [e]
  simp only [List.flatten_append, List.flatten_cons, List.flatten_nil, List.append_nil]
  exact (List.sublist_append_left _ _).trans (List.sublist_append_right _ _)

theorem body_k0 (v0 : Int) (w : World) : (Instr.buildSlice 41 1 ([(0, (.int .i64 v0))] : List (Nat × Value)).toArray).run Try.prog w = .ok (.slice (some ⟨w.heap.size, 0, none⟩) 1 1) { w with heap := w.heap.push (.cells ([.int .i64 v0] : List Value).toArray 3 (0, 0)) } := by kernel_rfl
theorem body_c {V : Mem} (rb : Nat) (A : Option Addr) (n c p : Nat) (bs : List Int) (h : Cels V [] A (bs.map (.int .u8))) (hn : bs.length = n) (hbd : ∀ b ∈ bs, 0 ≤ b ∧ b ≤ 255) (hp : p ≤ 8 * n) (hsz : n ≤ 140737488355328) (B : Option Addr) (m d : Nat) (xs : List Int) (h2 : Cels V [] B (xs.map (.int .i64))) (hm : xs.length = m) :
    CallS Try.prog 96 [.pointer (some ⟨rb, 0, none⟩), .slice B m d].toArray V [rgrp rb A n c p] (fun r L' => ∃ R k e zs G er p', r = .tuple #[.slice R k e, .int .i64 er] ∧ OS R k e 3 1 (zs.map (.int .i64)) G ∧ L' = [rgrp rb A n c p', G] ∧ zs.length ≤ 65536 ∧ ∀ ys, Good bs (8 * n) p xs ys → er = 0 ∧ zs = ys) := by
  refine callS Try.func96 rfl rfl (fun w0 => ?_)
  refine s_seq ?_
  refine s_region ?_
  refine o_val rfl rfl rfl (y_assign (v := (.slice _ _ _)) rfl) ?_
  refine o_val rfl rfl rfl (y_assign (v := (.int _ _)) rfl) ?_
  refine o_nil ?_
  refine s_seq ?_
  refine s_region ?_
  refine o_val rfl rfl rfl (y_move (v := (.pointer _)) rfl) ?_
  refine o_fn 1 (d := 14) rfl Try.call113 (RNat_c _ A n c p bs h.here.down hn hbd hp hsz) rfl ?_
  rintro _ _ ⟨v1, er2, p3, rfl, rfl, hp4, hv5, hrd6⟩
  refine o_val rfl rfl rfl (y_move (v := (.tuple #[(.int _ _), (.int _ _)])) rfl) ?_
  refine o_val rfl rfl rfl (y_extract (v := (.int _ _)) rfl rfl) ?_
  refine o_val rfl rfl rfl (y_extract (v := (.int _ _)) rfl rfl) ?_
  refine o_val rfl rfl rfl (y_assign (v := (.int _ _)) rfl) ?_
  refine o_val rfl rfl rfl (y_assign (v := (.int _ _)) rfl) ?_
  refine o_nil ?_
  refine s_seq ?_
  refine s_seq ?_
  refine s_region ?_
  refine o_val rfl rfl rfl (y_move (v := (.int _ _)) rfl) ?_
  refine o_val rfl rfl rfl (y_neq rfl rfl) ?_
  refine o_nil ?_
  refine s_if rfl (fun h7 => ?_) (fun h8 => ?_)
  · have her0 := h7
    refine s_seq ?_
    refine s_region ?_
    refine o_val rfl rfl rfl (y_move (v := (.int _ _)) rfl) ?_
    refine o_val rfl rfl rfl (y_assign (v := (.slice _ _ _)) rfl) ?_
    refine o_val rfl rfl rfl (y_assign (v := (.int _ _)) rfl) ?_
    refine o_nil ?_
    refine s_ret ?_
    exact ⟨_, [rgrp rb A n c _, []], res2 rfl rfl rfl, ⟨none, 0, 0, [], [], _, _, rfl, OS.nil _ _, rfl, by simp, fun ys hg => absurd hg (fun hg => her0 (body_start hrd6 ys hg).1)⟩, sub_two 0 rfl⟩
  · have her0 := Decidable.not_not.1 h8
    refine s_skip ?_
    refine s_seq ?_
    refine s_seq ?_
    refine s_region ?_
    refine o_val rfl rfl rfl (y_move (v := (.int _ _)) rfl) ?_
    refine o_val rfl rfl rfl (y_gtr rfl rfl) ?_
    refine o_nil ?_
    refine s_if rfl (fun h9 => ?_) (fun h10 => ?_)
    · have hbig := h9
      refine s_seq ?_
      refine s_region ?_
      refine o_val rfl rfl rfl (y_assign (v := (.slice _ _ _)) rfl) ?_
      refine o_val rfl rfl rfl (y_assign (v := (.int _ _)) rfl) ?_
      refine o_nil ?_
      refine s_ret ?_
      exact ⟨_, [rgrp rb A n c _, []], res2 rfl rfl rfl, ⟨none, 0, 0, [], [], _, _, rfl, OS.nil _ _, rfl, by simp, fun ys hg => absurd hg (fun hg => by have h1 := (body_start hrd6 ys hg).2.1; have h2 := hg.1; omega)⟩, sub_two 0 rfl⟩
    · have hsm := h10
      refine s_skip ?_
      refine s_seq ?_
      refine s_region ?_
      refine o_val rfl rfl rfl (y_assign (v := (.slice _ _ _)) rfl) ?_
      refine o_nil ?_
      refine s_seq ?_
      refine s_block ?_
      refine s_group ?_
      refine s_loop (γ := G1 × List Int × Nat) (fun g => [(0, .pointer (some ⟨rb, 0, none⟩)), (1, .slice B m d), (6, .int .u64 v1), (8, .slice g.1.A g.2.1.length g.1.c)]) (fun g => [rgrp rb A n c g.2.2, g.1.E]) (fun g => (g.2.1.length : Int) ≤ v1 ∧ OS g.1.A g.2.1.length g.1.c 3 1 (g.2.1.map (.int .i64)) g.1.E ∧ g.2.2 ≤ 8 * n ∧ bodyI bs (8 * n) p xs v1 g.2.2 g.2.1) (fun g => (v1 - g.2.1.length).toNat) ((G1.mk 0 none 0 0 [], [], p3)) ?_ ⟨rfl, rfl, rfl, rfl, trivial⟩ (sub_front ⟨_, rfl⟩) ?_
      · exact ⟨hv5.1, OS.nil _ _, hp4, body_first (by rw [her0] at hrd6; exact hrd6)⟩
      · intro g _f hI
        obtain ⟨hle, ho, hq, hI⟩ := hI
        refine s_seq ?_
        refine s_seq ?_
        refine s_region ?_
        refine o_val rfl rfl rfl (y_move (v := (.slice _ _ _)) rfl) ?_
        refine o_val rfl rfl rfl (y_len Try.runUnderlying41 rfl) ?_
        refine o_val rfl rfl rfl (y_conv Try.runUnderlying3 Try.runUnderlying107 rfl (by simp only [inK]; omega)) ?_
        refine o_val rfl rfl rfl (y_move (v := (.int _ _)) rfl) ?_
        refine o_val rfl rfl rfl (y_lss rfl rfl) ?_
        refine o_nil ?_
        refine s_if rfl (fun h11 => ?_) (fun h12 => ?_)
        · have hlt := h11
          refine s_skip ?_
          refine s_block ?_
          refine s_seq ?_
          refine s_region ?_
          refine o_val rfl rfl rfl (y_move (v := (.pointer _)) rfl) ?_
          refine o_fn 1 (d := 29) rfl Try.call113 (RNat_c _ A n c g.2.2 bs h.here.down hn hbd hq hsz) rfl ?_
          rintro _ _ ⟨v13, er14, p15, rfl, rfl, hp16, hv17, hrd18⟩
          refine o_val rfl rfl rfl (y_move (v := (.tuple #[(.int _ _), (.int _ _)])) rfl) ?_
          refine o_val rfl rfl rfl (y_extract (v := (.int _ _)) rfl rfl) ?_
          refine o_val rfl rfl rfl (y_extract (v := (.int _ _)) rfl rfl) ?_
          refine o_val rfl rfl rfl (y_assign (v := (.int _ _)) rfl) ?_
          refine o_val rfl rfl rfl (y_assign (v := (.int _ _)) rfl) ?_
          refine o_nil ?_
          refine s_seq ?_
          refine s_seq ?_
          refine s_region ?_
          refine o_val rfl rfl rfl (y_move (v := (.int _ _)) rfl) ?_
          refine o_val rfl rfl rfl (y_neq rfl rfl) ?_
          refine o_nil ?_
          refine s_if rfl (fun h19 => ?_) (fun h20 => ?_)
          · have her1 := h19
            refine s_seq ?_
            refine s_region ?_
            refine o_val rfl rfl rfl (y_move (v := (.int _ _)) rfl) ?_
            refine o_val rfl rfl rfl (y_assign (v := (.slice _ _ _)) rfl) ?_
            refine o_val rfl rfl rfl (y_assign (v := (.int _ _)) rfl) ?_
            refine o_nil ?_
            refine s_ret ?_
            exact ⟨_, [rgrp rb A n c _, []], res2 rfl rfl rfl, ⟨none, 0, 0, [], [], _, _, rfl, OS.nil _ _, rfl, by simp, fun ys hg => absurd hg (body_err hI hlt hrd18 her1 ys)⟩, sub_two 0 rfl⟩
          · have her1 := Decidable.not_not.1 h20
            refine s_skip ?_
            refine s_seq ?_
            refine s_seq ?_
            refine s_region ?_
            refine o_val rfl rfl rfl (y_move (v := (.int _ _)) rfl) ?_
            refine o_val rfl rfl rfl (y_move (v := (.int _ _)) rfl) ?_
            refine o_val rfl rfl rfl (y_move (v := (.slice _ _ _)) rfl) ?_
            refine o_val rfl rfl rfl (y_len Try.runUnderlying41 rfl) ?_
            refine o_val rfl rfl rfl (y_conv Try.runUnderlying3 Try.runUnderlying107 rfl (by simp only [inK]; omega)) ?_
            refine o_val rfl rfl rfl (y_sub rfl rfl (by simp only [inK]; omega)) ?_
            refine o_val rfl rfl rfl (y_gtr rfl rfl) ?_
            refine o_nil ?_
            refine s_if rfl (fun h21 => ?_) (fun h22 => ?_)
            · have hov := h21
              refine s_seq ?_
              refine s_region ?_
              refine o_val rfl rfl rfl (y_assign (v := (.slice _ _ _)) rfl) ?_
              refine o_val rfl rfl rfl (y_assign (v := (.int _ _)) rfl) ?_
              refine o_nil ?_
              refine s_ret ?_
              exact ⟨_, [rgrp rb A n c _, []], res2 rfl rfl rfl, ⟨none, 0, 0, [], [], _, _, rfl, OS.nil _ _, rfl, by simp, fun ys hg => absurd hg (body_big hI hlt (er := er14) hrd18 (by omega) ys)⟩, sub_two 0 rfl⟩
            · have hfit := h22
              refine s_skip ?_
              refine s_seq ?_
              refine s_seq ?_
              refine s_region ?_
              refine o_val rfl rfl rfl (y_move (v := (.int _ _)) rfl) ?_
              refine o_val rfl rfl rfl (y_move (v := (.int _ _)) rfl) ?_
              refine o_nil ?_
              refine s_block ?_
              refine s_loop (γ := G1 × List Int) (fun u => [(0, .pointer (some ⟨rb, 0, none⟩)), (1, .slice B m d), (6, .int .u64 v1), (8, .slice u.1.A u.2.length u.1.c), (42, .int .u64 v13), (43, .int .u64 u.1.i)]) (fun u => [rgrp rb A n c p15, u.1.E]) (fun u => (u.1.i : Int) ≤ v13 ∧ u.2.length = g.2.1.length + u.1.i ∧ OS u.1.A u.2.length u.1.c 3 1 (u.2.map (.int .i64)) u.1.E ∧ bodyK bs (8 * n) p xs v1 p15 u.2 (v13.toNat - u.1.i)) (fun u => (v13 - u.1.i).toNat) ((G1.mk 0 g.1.A 0 g.1.c g.1.E, g.2.1)) ?_ ⟨rfl, rfl, rfl, rfl, rfl, rfl, trivial⟩ (sub_front ⟨_, rfl⟩) ?_
              · exact ⟨hv17.1, rfl, ho, body_K hI hlt hrd18 hv17.1⟩
              · intro u _f hJ
                obtain ⟨hui, hul, ho2, hK⟩ := hJ
                refine s_seq ?_
                refine s_region ?_
                refine o_val rfl rfl rfl (y_lss rfl rfl) ?_
                refine o_nil ?_
                refine s_seq ?_
                refine s_if rfl (fun h23 => ?_) (fun h24 => ?_)
                · refine s_skip ?_
                  refine s_seq ?_
                  refine s_block ?_
                  refine s_region ?_
                  refine o_val rfl rfl rfl (y_move (v := (.slice _ _ _)) rfl) ?_
                  refine o_val rfl rfl rfl (y_move (v := (.slice _ _ _)) rfl) ?_
                  refine o_val rfl rfl rfl (y_move (v := (.slice _ _ _)) rfl) ?_
                  refine o_val rfl rfl rfl (y_len Try.runUnderlying41 rfl) ?_
                  refine o_fn 0 (d := 49) rfl Try.call91 (Base_c _ _ _ xs h2.here.down hm u.2.length) rfl ?_
                  rintro _ _ ⟨rfl, rfl⟩
                  refine o_lit (vs := [(0, .int _ _)]) rfl rfl (body_k0 _) (fun b25 => ?_)
                  refine o_append (sz := 1) (bytes := 8) (news := [(.int _ _)]) 1 rfl Try.underlying41 Try.type3 rfl rfl rfl rfl rfl ho2 rfl rfl (Src.slice Try.underlying41 (cels_own 2 rfl rfl) rfl (by simp [Value.oneCell']) (by simp)) (by omega) (fun A26 c27 E28 ho29 hn30 => ?_)
                  have ho31 : OS A26 (u.2 ++ [base xs u.2.length]).length c27 3 1 ((u.2 ++ [base xs u.2.length]).map (.int .i64)) E28 := by rw [List.length_append]; simpa using ho29
                  clear ho29
                  refine o_val rfl rfl rfl (y_assign (v := (.slice _ _ _)) rfl) ?_
                  refine o_nil ?_
                  refine s_region ?_
                  refine o_val rfl rfl rfl (y_add rfl rfl (by simp only [inK]; omega)) ?_
                  refine o_val rfl rfl rfl (y_move (v := (.int _ _)) rfl) ?_
                  refine o_nil ?_
                  exact ⟨(G1.mk (u.1.i + 1) A26 0 c27 E28, _), (by first | omega | (dsimp only; omega)), ⟨by dsimp only; omega, by simp only [List.length_append, List.length_singleton]; omega, ho31, body_more (by have e : v13.toNat - u.1.i = v13.toNat - (u.1.i + 1) + 1 := (by omega); rw [e] at hK; exact hK)⟩, ⟨rfl, rfl, rfl, (congrArg (fun k => Value.slice _ k _) (by simp)), rfl, (congrArg (Value.int _) (by dsimp only; omega)), trivial⟩, sub_picks [0, 0] rfl⟩
                · refine s_exit ?_
                  refine s_seq ?_
                  refine s_seq ?_
                  refine s_region ?_
                  have hiv : (u.1.i : Int) = v13 := by omega
                  have hr0 : v13.toNat - u.1.i = 0 := by omega
                  rw [hr0] at hK
                  have hq2 := hp16
                  refine o_val rfl rfl rfl (y_move (v := (.slice _ _ _)) rfl) ?_
                  refine o_val rfl rfl rfl (y_len Try.runUnderlying41 rfl) ?_
                  refine o_val rfl rfl rfl (y_conv Try.runUnderlying3 Try.runUnderlying107 rfl (by simp only [inK]; omega)) ?_
                  refine o_val rfl rfl rfl (y_move (v := (.int _ _)) rfl) ?_
                  refine o_val rfl rfl rfl (y_eql rfl rfl) ?_
                  refine o_nil ?_
                  refine s_if rfl (fun h32 => ?_) (fun h33 => ?_)
                  · have heq := h32
                    refine s_exit ?_
                    refine s_seq ?_
                    refine s_region ?_
                    refine o_val rfl rfl rfl (y_move (v := (.slice _ _ _)) rfl) ?_
                    refine o_val rfl rfl rfl (y_assign (v := (.slice _ _ _)) rfl) ?_
                    refine o_val rfl rfl rfl (y_assign (v := (.int _ _)) rfl) ?_
                    refine o_nil ?_
                    refine s_ret ?_
                    exact ⟨_, [_, _], res2 rfl rfl rfl, ⟨_, _, _, _, _, _, _, rfl, ho2, rfl, by omega, body_done hK (by omega)⟩, sub_picks [0, 0] rfl⟩
                  · have hne := h33
                    refine s_skip ?_
                    refine s_seq ?_
                    refine s_region ?_
                    refine o_val rfl rfl rfl (y_move (v := (.pointer _)) rfl) ?_
                    refine o_fn 1 (d := 60) rfl Try.call114 (RInt_c _ A n c _ bs h.here.down hn hbd hq2 hsz) rfl ?_
                    rintro _ _ ⟨v34, er35, p36, rfl, rfl, hp37, hv38, hrd39⟩
                    refine o_val rfl rfl rfl (y_move (v := (.tuple #[(.int _ _), (.int _ _)])) rfl) ?_
                    refine o_val rfl rfl rfl (y_extract (v := (.int _ _)) rfl rfl) ?_
                    refine o_val rfl rfl rfl (y_extract (v := (.int _ _)) rfl rfl) ?_
                    refine o_val rfl rfl rfl (y_assign (v := (.int _ _)) rfl) ?_
                    refine o_val rfl rfl rfl (y_assign (v := (.int _ _)) rfl) ?_
                    refine o_nil ?_
                    refine s_seq ?_
                    refine s_seq ?_
                    refine s_region ?_
                    refine o_val rfl rfl rfl (y_move (v := (.int _ _)) rfl) ?_
                    refine o_val rfl rfl rfl (y_neq rfl rfl) ?_
                    refine o_nil ?_
                    refine s_if rfl (fun h40 => ?_) (fun h41 => ?_)
                    · have her2 := h40
                      refine s_seq ?_
                      refine s_region ?_
                      refine o_val rfl rfl rfl (y_move (v := (.int _ _)) rfl) ?_
                      refine o_val rfl rfl rfl (y_assign (v := (.slice _ _ _)) rfl) ?_
                      refine o_val rfl rfl rfl (y_assign (v := (.int _ _)) rfl) ?_
                      refine o_nil ?_
                      refine s_ret ?_
                      exact ⟨_, [rgrp rb A n c _, []], res2 rfl rfl rfl, ⟨none, 0, 0, [], [], _, _, rfl, OS.nil _ _, rfl, by simp, fun ys hg => absurd hg (body_interr hK (by omega) hrd39 her2 ys)⟩, sub_two 0 rfl⟩
                    · have her2 := Decidable.not_not.1 h41
                      refine s_skip ?_
                      refine s_region ?_
                      refine o_val rfl rfl rfl (y_move (v := (.slice _ _ _)) rfl) ?_
                      refine o_val rfl rfl rfl (y_move (v := (.slice _ _ _)) rfl) ?_
                      refine o_val rfl rfl rfl (y_move (v := (.slice _ _ _)) rfl) ?_
                      refine o_val rfl rfl rfl (y_len Try.runUnderlying41 rfl) ?_
                      refine o_fn 0 (d := 70) rfl Try.call91 (Base_c _ _ _ xs h2.here.down hm u.2.length) rfl ?_
                      rintro _ _ ⟨rfl, rfl⟩
                      refine o_val rfl rfl rfl (y_move (v := (.int _ _)) rfl) ?_
                      refine o_val rfl rfl rfl (y_add' rfl rfl) ?_
                      refine o_lit (vs := [(0, .int _ _)]) rfl rfl (body_k0 _) (fun b42 => ?_)
                      refine o_append (sz := 1) (bytes := 8) (news := [(.int _ _)]) 1 rfl Try.underlying41 Try.type3 rfl rfl rfl rfl rfl ho2 rfl rfl (Src.slice Try.underlying41 (cels_own 2 rfl rfl) rfl (by simp [Value.oneCell']) (by simp)) (by omega) (fun A43 c44 E45 ho46 hn47 => ?_)
                      have ho48 : OS A43 (u.2 ++ [IntKind.i64.wrap (base xs u.2.length + v34)]).length c44 3 1 ((u.2 ++ [IntKind.i64.wrap (base xs u.2.length + v34)]).map (.int .i64)) E45 := by rw [List.length_append]; simpa using ho46
                      clear ho46
                      refine o_val rfl rfl rfl (y_assign (v := (.slice _ _ _)) rfl) ?_
                      refine o_nil ?_
                      exact ⟨(G1.mk 0 A43 0 c44 E45, _, p36), (by simp only [List.length_append, List.length_singleton]; omega), ⟨by simp only [List.length_append, List.length_singleton]; omega, ho48, hp37, body_next hK hne hrd39⟩, ⟨rfl, rfl, rfl, (congrArg (fun k => Value.slice _ k _) (by simp)), trivial⟩, sub_picks [0, 0] rfl⟩
        · have hend := h12
          refine s_exit ?_
          refine s_seq ?_
          refine s_region ?_
          refine o_val rfl rfl rfl (y_move (v := (.slice _ _ _)) rfl) ?_
          refine o_val rfl rfl rfl (y_assign (v := (.slice _ _ _)) rfl) ?_
          refine o_val rfl rfl rfl (y_assign (v := (.int _ _)) rfl) ?_
          refine o_nil ?_
          refine s_ret ?_
          exact ⟨_, [_, _], res2 rfl rfl rfl, ⟨_, _, _, _, _, _, _, rfl, ho, rfl, by omega, body_end hI (by omega)⟩, sub_picks [0, 0] rfl⟩

end Go.Proofs.Ytppciokaldmipaa.K
