/- Walks: packets taken by the reference. No condition beyond what each statement names. -/
import Derived.Test.YtdgmocibjjkghaaProg
import Derived.Test.YtdgmocibjjkghaaK14
import Derived.Test.YtdgmocibjjkghaaB9
import Derived.Test.YtdgmocibjjkghaaN1
import Derived.Test.YtdgmocibjjkghaaN3
import Derived.Test.YtdgmocibjjkghaaN4
import Derived.Test.YtdgmocibjjkghaaL1
import Derived.Test.YtdgmocibjjkghaaL2
import Derived.Test.YtdgmocibjjkghaaL3
import Derived.Test.YtdgmocibjjkghaaL4
import Derived.Test.YtdgmocibjjkghaaL5
import Derived.Test.YtdgmocibjjkghaaL6
import Derived.Test.YtdgmocibjjkghaaL7
set_option linter.unusedVariables false
set_option linter.unusedSimpArgs false
set_option maxRecDepth 100000
namespace Go.Proofs.Ytdgmocibjjkghaa.K
open Go.RowKit

theorem BEqualL_c {V : Mem} (A : Option Addr) (n c : Nat) (bs : List Int) (h : Cels V [] A (bs.map (.int .u8))) (hn : bs.length = n) (hb : ∀ b ∈ bs, 0 ≤ b ∧ b ≤ 255) (B : Option Addr) (m d : Nat) (cs : List Int) (h' : Cels V [] B (cs.map (.int .u8))) (hm : cs.length = m) (hc : ∀ b ∈ cs, 0 ≤ b ∧ b ≤ 255) : CallS Try.prog 23 [.slice A n c, .slice B m d].toArray V [] (fun r L' => r = .bool (decide (bs = cs)) ∧ L' = []) := by
  refine callS Try.func23 rfl rfl (fun w0 => ?_)
  refine s_seq ?_
  refine s_region ?_
  refine o_val rfl rfl rfl (y_assign (v := (.bool _)) rfl) ?_
  refine o_nil ?_
  refine s_seq ?_
  refine s_region ?_
  refine o_val rfl rfl rfl (y_move (v := (.slice _ _ _)) rfl) ?_
  refine o_val rfl rfl rfl (y_bytes_str Try.underlying29 Try.underlying5 Try.underlying9 rfl (h.here) (hn)) ?_
  refine o_val rfl rfl rfl (y_move (v := (.slice _ _ _)) rfl) ?_
  refine o_val rfl rfl rfl (y_bytes_str Try.underlying29 Try.underlying5 Try.underlying9 rfl (h'.here) (hm)) ?_
  refine o_val rfl rfl rfl (y_eql_str rfl rfl) ?_
  refine o_val rfl rfl rfl (y_assign (v := (.bool _)) rfl) ?_
  refine o_nil ?_
  refine s_ret ?_
  exact ⟨_, _, res1 rfl rfl, ⟨congrArg Value.bool (by rw [decide_eq_decide]; exact mkB_inj hb hc), rfl⟩, sub_front ⟨_, rfl⟩⟩

theorem TakeH_k0 (v0A : Option Addr) (v0n : Nat) (v0c : Nat) (w : World) : (Instr.buildSlice 60 1 ([(0, (.slice v0A v0n v0c))] : List (Nat × Value)).toArray).run Try.prog w = .ok (.slice (some ⟨w.heap.size, 0, none⟩) 1 1) { w with heap := w.heap.push (.cells ([.slice v0A v0n v0c] : List Value).toArray 29 (0, 0)) } := by kernel_rfl
theorem TakeH_c {V : Mem} (b : Nat) (sA : Option Addr) (sn sc : Nat) (acked came : Int) (nA : Option Addr) (nn nc : Nat) (gs : List FL) (NG PG : Grp) (hog : OS nA nn nc 29 1 ((gs).flatMap encB) NG) (hin : ∀ f ∈ gs, BlIn PG f) (hf : 0 ≤ acked ∧ acked ≤ 1000000 ∧ sn ≤ 1000000 ∧ 0 ≤ came ∧ came ≤ 1000000 ∧ nn ≤ 1000000) (A : Option Addr) (n c : Nat) (bs : List Int) (h : BB V A n c bs) (hb : n ≤ 140737488355328) : CallS Try.prog 34 [.pointer (some ⟨b, 0, none⟩), .slice A n c].toArray V [halfg b sA sn sc acked came nA nn nc, NG, PG] (fun r L' => ((inErr n bs (sn : Int)) ≠ 0 ∧ r = .int .i64 (inErr n bs (sn : Int)) ∧ L' = [halfg b sA sn sc acked came nA nn nc, NG, PG]) ∨ ((inErr n bs (sn : Int)) = 0 ∧ r = .int .i64 0 ∧ ∃ (nA' : Option Addr) (nc' : Nat) (gs' : List FL) (E' PG' : Grp), gs'.map (·.bs) = (recv (parse n bs).first (parse n bs).ms came (gs.map (·.bs)) (parse n bs).ms.length).2 ∧ OS nA' gs'.length nc' 29 1 ((gs').flatMap encB) E' ∧ (∀ f ∈ gs', BlIn PG' f) ∧ L' = [halfg b sA sn sc ((max acked (parse n bs).ack)) ((recv (parse n bs).first (parse n bs).ms came (gs.map (·.bs)) (parse n bs).ms.length).1) nA' gs'.length nc', E', PG'])) := by
  have hgl := osl_len hog
  have hbl := h.1
  have hbc := h.2.1
  refine callS Try.func34 rfl rfl (fun w0 => ?_)
  refine s_seq ?_
  refine s_region ?_
  refine o_val rfl rfl rfl (y_assign (v := (.int _ _)) rfl) ?_
  refine o_nil ?_
  refine s_seq ?_
  refine s_seq ?_
  refine s_region ?_
  refine o_val rfl rfl rfl (y_move (v := (.slice _ _ _)) rfl) ?_
  refine o_val rfl rfl rfl (y_len Try.runUnderlying29 rfl) ?_
  refine o_val rfl rfl rfl (y_lss rfl rfl) ?_
  refine o_nil ?_
  refine s_if rfl (fun h1 => ?_) (fun h2 => ?_)
  · refine s_seq ?_
    refine s_region ?_
    refine o_val rfl rfl rfl (y_assign (v := (.int _ _)) rfl) ?_
    refine o_nil ?_
    refine s_ret ?_
    have hpe : parse n bs = ⟨14, 0, 0, []⟩ := by
                unfold parse
                rw [if_pos (by omega)]
    have he : (inErr n bs (sn : Int)) = 14 := by unfold inErr; rw [hpe]; rfl
    exact ⟨_, _, res1 rfl rfl, .inl ⟨by rw [he]; decide, congrArg (Value.int .i64) he.symm, rfl⟩, sub_picks [0, 0, 0] rfl⟩
  · refine s_skip ?_
    refine s_seq ?_
    refine s_quiet (by kernel_rfl) (by kernel_rfl) ?_
    refine q_val rfl rfl rfl (y_move (v := (.slice _ _ _)) rfl) ?_
    refine q_val rfl rfl rfl (y_move (v := (.slice _ _ _)) rfl) ?_
    refine q_val rfl rfl rfl (y_len Try.runUnderlying29 rfl) ?_
    refine q_val rfl rfl rfl (y_sub rfl rfl (by simp only [inK]; omega)) ?_
    refine q_val rfl rfl rfl (y_cut_hi Try.runUnderlying29 Try.sizeOf5 rfl rfl (by omega)) ?_
    refine q_val rfl rfl rfl (y_move (v := (.slice _ _ _)) rfl) ?_
    refine q_val rfl rfl rfl (y_move (v := (.slice _ _ _)) rfl) ?_
    refine q_val rfl rfl rfl (y_len Try.runUnderlying29 rfl) ?_
    refine q_val rfl rfl rfl (y_sub rfl rfl (by simp only [inK]; omega)) ?_
    refine q_val rfl rfl rfl (y_cut_lo Try.runUnderlying29 Try.sizeOf5 rfl rfl (by omega)) ?_
    refine q_val rfl rfl rfl (y_assign (v := (.slice _ _ _)) rfl) ?_
    refine q_val rfl rfl rfl (y_assign (v := (.slice _ _ _)) rfl) ?_
    refine q_nil ?_
    refine s_forget [(0, (.pointer _)), (4, (.int _ _)), (5, (.slice _ _ _)), (6, (.slice _ _ _))] ⟨rfl, rfl, rfl, rfl, trivial⟩ (fun _f => ?_)
    refine s_seq ?_
    refine s_seq ?_
    refine s_region ?_
    have h0 := h.to (m := (((n : Nat) : Int) - 8).toNat) (by omega)
    have h0l := h0.1
    have ht := h.from (l := (((n : Nat) : Int) - 8).toNat) (by omega)
    have htl := ht.1
    refine o_val rfl rfl rfl (y_move (v := (.slice _ _ _)) rfl) ?_
    refine o_val rfl rfl rfl (y_move (v := (.slice _ _ _)) rfl) ?_
    refine o_fn 0 (d := 30) rfl Try.call75 (SumBytes_c _ _ _ _ h0.lift (by omega)) rfl ?_
    rintro _ _ ⟨rfl, rfl⟩
    have hs0 := sumB_in (bs.take (((n : Nat) : Int) - 8).toNat)
    refine o_fn 0 (d := 31) rfl Try.call77 (Big8_c (sumB (bs.take (((n : Nat) : Int) - 8).toNat)) hs0) rfl ?_
    rintro _ _ ⟨b3A, b3e, b3E, rfl, b3o, rfl⟩
    refine o_fn 0 (d := 32) rfl Try.call23 (BEqualL_c _ _ _ (bs.drop (((n : Nat) : Int) - 8).toNat) ht.lift.2.2.1 ht.1 ht.2.2.2 _ _ _ (be 8 (sumB (bs.take (((n : Nat) : Int) - 8).toNat)).toNat) (b3o.cels (j := 0) rfl).down (be_len _ _) (be_byte _ _)) rfl ?_
    rintro _ _ ⟨rfl, rfl⟩
    refine o_val rfl rfl rfl (y_not rfl) ?_
    refine o_nil ?_
    refine s_if rfl (fun h3 => ?_) (fun h4 => ?_)
    · have hne : bs.drop (((((n : Nat) : Int) - 8).toNat : Nat) : Int).toNat ≠ be 8 (sumB (bs.take (((n : Nat) : Int) - 8).toNat)).toNat := h3
      refine s_seq ?_
      refine s_region ?_
      refine o_val rfl rfl rfl (y_assign (v := (.int _ _)) rfl) ?_
      refine o_nil ?_
      refine s_ret ?_
      have hpe : parse n bs = ⟨13, 0, 0, []⟩ := by
                  unfold parse
                  rw [if_neg (by omega), if_pos hne]
      have he : (inErr n bs (sn : Int)) = 13 := by unfold inErr; rw [hpe]; rfl
      exact ⟨_, _, res1 rfl rfl, .inl ⟨by rw [he]; decide, congrArg (Value.int .i64) he.symm, rfl⟩, sub_picks [1, 1, 1] rfl⟩
    · have heq : bs.drop (((((n : Nat) : Int) - 8).toNat : Nat) : Int).toNat = be 8 (sumB (bs.take (((n : Nat) : Int) - 8).toNat)).toNat := Decidable.not_not.1 h4
      refine s_skip ?_
      refine s_seq ?_
      refine s_drawn 0 (by kernel_rfl) ?_
      refine d_val (i := 0) rfl (by kernel_rfl) (by kernel_rfl) (by kernel_rfl) rfl rfl rfl (y_move (v := (.slice _ _ _)) rfl) ?_
      refine d_val (i := 1) rfl (by kernel_rfl) (by kernel_rfl) (by kernel_rfl) rfl rfl rfl (y_cut_hi Try.runUnderlying29 Try.sizeOf5 rfl rfl (by omega)) ?_
      refine d_val (i := 3) rfl (by kernel_rfl) (by kernel_rfl) (by kernel_rfl) rfl rfl rfl (y_move (v := (.slice _ _ _)) rfl) ?_
      refine d_val (i := 4) rfl (by kernel_rfl) (by kernel_rfl) (by kernel_rfl) rfl rfl rfl (y_cut_lohi Try.runUnderlying29 Try.sizeOf5 rfl rfl rfl (by omega)) ?_
      refine d_val (i := 6) rfl (by kernel_rfl) (by kernel_rfl) (by kernel_rfl) rfl rfl rfl (y_move (v := (.slice _ _ _)) rfl) ?_
      refine d_val (i := 7) rfl (by kernel_rfl) (by kernel_rfl) (by kernel_rfl) rfl rfl rfl (y_index1 Try.runUnderlying29 Try.sizeOf5 (some_int (i := 0) h0.2.2.1 (by omega)) rfl rfl (by omega)) ?_
      refine d_val (i := 8) rfl (by kernel_rfl) (by kernel_rfl) (by kernel_rfl) rfl rfl rfl (y_load Try.isAgg5 rfl (cel_int h0.2.2.1.here (by omega))) ?_
      refine d_val (i := 9) rfl (by kernel_rfl) (by kernel_rfl) (by kernel_rfl) rfl rfl rfl (y_conv Try.runUnderlying5 Try.runUnderlying3 rfl (by have := h0.2.2.2 _ (getD_in2 (l := (bs.take (((n : Nat) : Int) - 8).toNat)) (j := ((8 : Int)).toNat) (by omega)); simp only [inK]; omega)) ?_
      refine d_eff (k := 2) (n := 0) (m := 4) rfl (by kernel_rfl) rfl ?_
      refine o_fn 0 (d := 36) rfl Try.call79 (Whole_c _ _ _ ((bs.take (((n : Nat) : Int) - 8).toNat).take 4) (h0.to (m := 4) (by omega)).lift (by omega)) rfl ?_
      rintro _ _ ⟨rfl, rfl⟩
      refine o_nil ?_
      refine d_eff (k := 5) (n := 0) (m := 4) rfl (by kernel_rfl) rfl ?_
      refine o_fn 0 (d := 39) rfl Try.call79 (Whole_c _ _ _ (((bs.take (((n : Nat) : Int) - 8).toNat).drop 4).take 4) (h0.cut (l := 4) (m := 8) (by omega) (by omega)).lift (by omega)) rfl ?_
      rintro _ _ ⟨rfl, rfl⟩
      refine o_nil ?_
      refine d_val (i := 10) rfl (by kernel_rfl) (by kernel_rfl) (by kernel_rfl) rfl rfl rfl (y_assign (v := (.int _ _)) rfl) ?_
      refine d_val (i := 11) rfl (by kernel_rfl) (by kernel_rfl) (by kernel_rfl) rfl rfl rfl (y_assign (v := (.int _ _)) rfl) ?_
      refine d_val (i := 12) rfl (by kernel_rfl) (by kernel_rfl) (by kernel_rfl) rfl rfl rfl (y_assign (v := (.int _ _)) rfl) ?_
      refine d_nil (n := 0) (m := 4) (by kernel_rfl) rfl ?_
      refine s_forget [(0, (.pointer _)), (4, (.int _ _)), (5, (.slice _ _ _)), (7, (.int _ _)), (8, (.int _ _)), (9, (.int _ _))] ⟨rfl, rfl, rfl, rfl, rfl, rfl, trivial⟩ (fun _f => ?_)
      refine s_seq ?_
      refine s_region ?_
      refine o_val rfl rfl rfl (y_assign (v := (.slice _ _ _)) rfl) ?_
      refine o_nil ?_
      refine s_seq ?_
      refine s_region ?_
      refine o_val rfl rfl rfl (y_move (v := (.slice _ _ _)) rfl) ?_
      refine o_val rfl rfl rfl (y_cut_lo Try.runUnderlying29 Try.sizeOf5 rfl rfl (by omega)) ?_
      refine o_val rfl rfl rfl (y_assign (v := (.slice _ _ _)) rfl) ?_
      refine o_nil ?_
      refine s_seq ?_
      refine s_seq ?_
      refine s_region ?_
      obtain ⟨mN, hmN⟩ : ∃ k : Nat, (bs.take (((n : Nat) : Int) - 8).toNat).getD ((8 : Int)).toNat 0 = (k : Int) := ⟨((bs.take (((n : Nat) : Int) - 8).toNat).getD ((8 : Int)).toNat 0).toNat, by have := h0.2.2.2 _ (getD_in2 (l := (bs.take (((n : Nat) : Int) - 8).toNat)) (j := ((8 : Int)).toNat) (by omega)); omega⟩
      have hmb : mN ≤ 255 := by have := h0.2.2.2 _ (getD_in2 (l := (bs.take (((n : Nat) : Int) - 8).toNat)) (j := ((8 : Int)).toNat) (by omega)); omega
      have hm8 : (bs.take (((n : Nat) : Int) - 8).toNat).getD 8 0 = (mN : Int) := hmN
      rw [hmN]
      refine o_val rfl rfl rfl (y_move (v := (.int _ _)) rfl) ?_
      refine o_val rfl rfl rfl (y_move (v := (.int _ _)) rfl) ?_
      refine o_nil ?_
      refine s_block ?_
      refine s_sub_picks [1, 1, 1] rfl ?_
      refine s_group ?_
      refine s_group ?_
      refine s_loop (γ := PM) (fun u => [(0, .pointer (some ⟨b, 0, none⟩)), (7, .int .i64 (val ((bs.take (((n : Nat) : Int) - 8).toNat).take 4))), (8, .int .i64 (val (((bs.take (((n : Nat) : Int) - 8).toNat).drop 4).take 4))), (9, .int .i64 mN), (10, .slice u.M u.fs.length u.mc), (11, .slice u.A u.n u.c), (46, .int .i64 mN), (47, .int .i64 u.i)]) (fun u => [halfg b sA sn sc acked came nA nn nc, NG, PG, u.E, u.PG]) (fun u => (u.i ≤ mN ∧ u.n ≤ n ∧ u.fs.length = u.i) ∧ BB V u.A u.n u.c u.rest ∧ msgGo mN ((bs.take (((n : Nat) : Int) - 8).toNat).drop 9) = (msgGo (mN - u.i) u.rest).map (fun x => (u.fs.map (·.bs) ++ x.1, x.2)) ∧ OS u.M u.fs.length u.mc 29 1 ((u.fs).flatMap encB) u.E ∧ (∀ f ∈ u.fs, BlIn u.PG f)) (fun u => mN - u.i) (PM.mk 0 _ _ _ ((bs.take (((n : Nat) : Int) - 8).toNat).drop 9) [] none 0 [] []) ?_ ⟨rfl, rfl, rfl, rfl, rfl, rfl, rfl, rfl, trivial⟩ (sub_front ⟨_, rfl⟩) ?_
      · exact ⟨⟨Nat.zero_le _, by dsimp only; omega, rfl⟩, h0.from (l := 9) (by omega), by simp, OS.nil _ _, fun f hf => absurd hf List.not_mem_nil⟩
      · intro u _f hJ
        obtain ⟨⟨hi, hle, hfl⟩, hB, hgo, hou, hinm⟩ := hJ
        have hBl := hB.1
        have hBc := hB.2.1
        refine s_seq ?_
        refine s_region ?_
        refine o_val rfl rfl rfl (y_lss rfl rfl) ?_
        refine o_nil ?_
        refine s_seq ?_
        refine s_if rfl (fun h5 => ?_) (fun h6 => ?_)
        · refine s_skip ?_
          refine s_seq ?_
          refine s_block ?_
          refine s_seq ?_
          refine s_seq ?_
          refine s_region ?_
          have hvb := fun hl2 : 2 ≤ u.n => val_bd 2 (u.rest.take 2) (by rw [List.length_take]; omega) (fun b hb => hB.2.2.2 b (List.mem_of_mem_take hb))
          refine o_val rfl rfl rfl (y_move (v := (.slice _ _ _)) rfl) ?_
          refine o_val rfl rfl rfl (y_len Try.runUnderlying29 rfl) ?_
          refine o_split rfl rfl rfl (y_lss rfl rfl) (fun p7 => ?_) (fun p8 => ?_)
          · have hbad : u.rest.length < 2 ∨ (u.rest.length : Int) - 2 < val (u.rest.take 2) := .inl (by omega)
            refine o_val rfl rfl rfl (y_move (v := (.bool _)) rfl) ?_
            refine o_guard_no rfl rfl rfl rfl rfl ?_
            refine o_guard_no rfl rfl rfl rfl rfl ?_
            refine o_guard_no rfl rfl rfl rfl rfl ?_
            refine o_guard_no rfl rfl rfl rfl rfl ?_
            refine o_guard_no rfl rfl rfl rfl rfl ?_
            refine o_guard_no rfl rfl rfl rfl rfl ?_
            refine o_guard_no rfl rfl rfl rfl rfl ?_
            refine o_val rfl rfl rfl (y_pick_t (v := (.bool _)) rfl rfl) ?_
            refine o_nil ?_
            refine s_then rfl ?_
            refine s_seq ?_
            refine s_region ?_
            refine o_val rfl rfl rfl (y_assign (v := (.int _ _)) rfl) ?_
            refine o_nil ?_
            refine s_ret ?_
            have hpe : parse n bs = ⟨3, 0, 0, []⟩ := by
                        unfold parse
                        rw [if_neg (by omega), if_neg (fun hh => hh heq), hm8, Int.toNat_natCast, hgo, show mN - u.i = (mN - u.i - 1) + 1 by omega, msgGo_none hbad]; rfl
            have he : (inErr n bs (sn : Int)) = 3 := by unfold inErr; rw [hpe]; rfl
            exact ⟨_, _, res1 rfl rfl, .inl ⟨by rw [he]; decide, congrArg (Value.int .i64) he.symm, rfl⟩, sub_picks [0, 0, 0] rfl⟩
          · have h2r := p8
            have hvb := hvb (by omega)
            refine o_val rfl rfl rfl (y_move (v := (.bool _)) rfl) ?_
            refine o_guard_yes rfl rfl ?_
            refine o_val rfl rfl rfl (y_move (v := (.slice _ _ _)) rfl) ?_
            refine o_guard_yes rfl rfl ?_
            refine o_val rfl rfl rfl (y_len Try.runUnderlying29 rfl) ?_
            refine o_guard_yes rfl rfl ?_
            refine o_val rfl rfl rfl (y_move (v := (.slice _ _ _)) rfl) ?_
            refine o_guard_yes rfl rfl ?_
            refine o_val rfl rfl rfl (y_cut_hi Try.runUnderlying29 Try.sizeOf5 rfl rfl (by omega)) ?_
            refine o_guard_yes rfl rfl ?_
            refine o_fn 0 (d := 57) rfl Try.call79 (Whole_c _ _ _ (u.rest.take 2) (hB.to (m := 2) (by omega)).lift (by omega)) rfl ?_
            rintro _ _ ⟨rfl, rfl⟩
            refine o_guard_yes rfl rfl ?_
            refine o_val rfl rfl rfl (y_add rfl rfl (by simp only [inK]; omega)) ?_
            refine o_guard_yes rfl rfl ?_
            refine o_val rfl rfl rfl (y_lss rfl rfl) ?_
            refine o_val rfl rfl rfl (y_pick_f (v := (.bool _)) rfl rfl) ?_
            refine o_nil ?_
            refine s_if rfl (fun h9 => ?_) (fun h10 => ?_)
            · have hbad : u.rest.length < 2 ∨ (u.rest.length : Int) - 2 < val (u.rest.take 2) := by first | assumption | exact .inr (by omega)
              refine s_seq ?_
              refine s_region ?_
              refine o_val rfl rfl rfl (y_assign (v := (.int _ _)) rfl) ?_
              refine o_nil ?_
              refine s_ret ?_
              have hpe : parse n bs = ⟨3, 0, 0, []⟩ := by
                          unfold parse
                          rw [if_neg (by omega), if_neg (fun hh => hh heq), hm8, Int.toNat_natCast, hgo, show mN - u.i = (mN - u.i - 1) + 1 by omega, msgGo_none hbad]; rfl
              have he : (inErr n bs (sn : Int)) = 3 := by unfold inErr; rw [hpe]; rfl
              exact ⟨_, _, res1 rfl rfl, .inl ⟨by rw [he]; decide, congrArg (Value.int .i64) he.symm, rfl⟩, sub_picks [0, 0, 0] rfl⟩
            · have hgood : ¬ (u.rest.length < 2 ∨ (u.rest.length : Int) - 2 < val (u.rest.take 2)) := by omega
              have hM := hB.cut (l := 2) (m := (2 + val (u.rest.take 2)).toNat) (by omega) (by omega)
              refine s_skip ?_
              refine s_seq ?_
              refine s_region ?_
              refine o_val rfl rfl rfl (y_move (v := (.slice _ _ _)) rfl) ?_
              refine o_val rfl rfl rfl (y_cut_hi Try.runUnderlying29 Try.sizeOf5 rfl rfl (by omega)) ?_
              refine o_fn 0 (d := 63) rfl Try.call79 (Whole_c _ _ _ (u.rest.take 2) (hB.to (m := 2) (by omega)).lift (by omega)) rfl ?_
              rintro _ _ ⟨rfl, rfl⟩
              refine o_val rfl rfl rfl (y_assign (v := (.int _ _)) rfl) ?_
              refine o_nil ?_
              refine s_seq ?_
              refine s_region ?_
              refine o_val rfl rfl rfl (y_move (v := (.slice _ _ _)) rfl) ?_
              refine o_val rfl rfl rfl (y_move (v := (.slice _ _ _)) rfl) ?_
              refine o_val rfl rfl rfl (y_move (v := (.int _ _)) rfl) ?_
              refine o_val rfl rfl rfl (y_add rfl rfl (by simp only [inK]; omega)) ?_
              refine o_val rfl rfl rfl (y_cut_lohi Try.runUnderlying29 Try.sizeOf5 rfl rfl rfl (by omega)) ?_
              refine o_fn 0 (d := 69) rfl Try.call68 (BClone_c _ _ _ ((u.rest.drop 2).take ((2 + val (u.rest.take 2)).toNat - 2)) hM.lift.2.2.1 hM.1 (by omega)) rfl ?_
              rintro _ _ ⟨cB, ce, cG, rfl, hco, rfl⟩
              have hall := blin_snoc hinm (BlIn.new (PG := u.PG) hco (by omega) hM.2.2.2)
              refine o_pull 5 ?_
              refine o_pull 1 ?_
              refine o_fuse ?_
              refine o_lit (vs := [(0, .slice _ _ _)]) rfl rfl (TakeH_k0 _ _ _) (fun b11 => ?_)
              refine o_append (sz := 1) (bytes := 24) (news := [(.slice _ _ _)]) 4 rfl Try.underlying60 Try.type29 rfl rfl rfl rfl rfl hou rfl rfl (Src.slice Try.underlying60 (cels_own 5 rfl rfl) rfl (by simp [Value.oneCell']) (by simp)) (by omega) (fun A12 c13 E14 ho15 hn16 => ?_)
              have ho17 : OS A12 (u.fs.length + 1) c13 29 1 ((u.fs ++ [fl cB ((2 + val (u.rest.take 2)).toNat - 2) ce ((u.rest.drop 2).take ((2 + val (u.rest.take 2)).toNat - 2))]).flatMap encB) E14 := (os_eq ho15 (by rw [List.flatMap_append]; rfl))
              clear ho15
              refine o_val rfl rfl rfl (y_assign (v := (.slice _ _ _)) rfl) ?_
              refine o_nil ?_
              refine s_norm [_, [(_, .cells [(.slice _ _ _), (.int _ _), (.int _ _), (.slice _ _ _)].toArray 62 (0, 0))], _, _, _, [(_, .cells [(.slice _ _ _)].toArray 29 (0, 0))]] rfl ?_
              refine s_region ?_
              refine o_val rfl rfl rfl (y_move (v := (.slice _ _ _)) rfl) ?_
              refine o_val rfl rfl rfl (y_move (v := (.int _ _)) rfl) ?_
              refine o_val rfl rfl rfl (y_add rfl rfl (by simp only [inK]; omega)) ?_
              refine o_val rfl rfl rfl (y_cut_lo Try.runUnderlying29 Try.sizeOf5 rfl rfl (by omega)) ?_
              refine o_val rfl rfl rfl (y_assign (v := (.slice _ _ _)) rfl) ?_
              refine o_nil ?_
              refine s_region ?_
              refine o_val rfl rfl rfl (y_add rfl rfl (by simp only [inK]; omega)) ?_
              refine o_val rfl rfl rfl (y_move (v := (.int _ _)) rfl) ?_
              refine o_nil ?_
              have hstep := msgGo_step (k := mN - (u.i + 1)) hgood
              exact ⟨PM.mk (u.i + 1) (cutA u.A u.c (2 + val (u.rest.take 2)).toNat 1) (u.n - (2 + val (u.rest.take 2)).toNat) (u.c - (2 + val (u.rest.take 2)).toNat) (u.rest.drop (2 + val (u.rest.take 2)).toNat) (u.fs ++ [fl cB ((2 + val (u.rest.take 2)).toNat - 2) ce ((u.rest.drop 2).take ((2 + val (u.rest.take 2)).toNat - 2))]) A12 c13 E14 (cG ++ u.PG), (by first | omega | (dsimp only; omega)), ⟨⟨by dsimp only; omega, by dsimp only; omega, by dsimp only; rw [List.length_append, hfl]; rfl⟩, hB.from (by omega), (by dsimp only; rw [hgo, show mN - u.i = mN - (u.i + 1) + 1 by omega, hstep]; cases msgGo (mN - (u.i + 1)) (u.rest.drop (2 + val (u.rest.take 2)).toNat) <;> simp [fl]), (by dsimp only; rw [List.length_append]; exact ho17), hall⟩, ⟨rfl, rfl, rfl, rfl, (congrArg (fun x : Nat => Value.slice A12 x c13) (by dsimp only; rw [List.length_append]; rfl)), rfl, rfl, (congrArg (Value.int .i64) (by dsimp only; omega)), trivial⟩, (sub_picks [1, 1, 1, 1, 0] rfl)⟩
        · refine s_exit ?_
          refine s_seq ?_
          refine s_seq ?_
          refine s_region ?_
          refine o_val rfl rfl rfl (y_move (v := (.int _ _)) rfl) ?_
          refine o_split rfl rfl rfl (y_gtr rfl rfl) (fun p18 => ?_) (fun p19 => ?_)
          · have hbad : 8 < (mN : Int) ∨ 0 < u.rest.length := by omega
            refine o_val rfl rfl rfl (y_move (v := (.bool _)) rfl) ?_
            refine o_guard_no rfl rfl rfl rfl rfl ?_
            refine o_guard_no rfl rfl rfl rfl rfl ?_
            refine o_guard_no rfl rfl rfl rfl rfl ?_
            refine o_val rfl rfl rfl (y_pick_t (v := (.bool _)) rfl rfl) ?_
            refine o_nil ?_
            refine s_then rfl ?_
            refine s_seq ?_
            refine s_region ?_
            refine o_val rfl rfl rfl (y_assign (v := (.int _ _)) rfl) ?_
            refine o_nil ?_
            refine s_ret ?_
            have hpe : parse n bs = ⟨3, 0, 0, []⟩ := by
                        unfold parse
                        rw [if_neg (by omega), if_neg (fun hh => hh heq), hm8, Int.toNat_natCast, hgo, show mN - u.i = 0 by omega]; simp only [msgGo, Option.map_some]; rw [if_pos hbad]
            have he : (inErr n bs (sn : Int)) = 3 := by unfold inErr; rw [hpe]; rfl
            exact ⟨_, _, res1 rfl rfl, .inl ⟨by rw [he]; decide, congrArg (Value.int .i64) he.symm, rfl⟩, sub_picks [0, 0, 0] rfl⟩
          · refine o_val rfl rfl rfl (y_move (v := (.bool _)) rfl) ?_
            refine o_guard_yes rfl rfl ?_
            refine o_val rfl rfl rfl (y_move (v := (.slice _ _ _)) rfl) ?_
            refine o_guard_yes rfl rfl ?_
            refine o_val rfl rfl rfl (y_len Try.runUnderlying29 rfl) ?_
            refine o_guard_yes rfl rfl ?_
            refine o_val rfl rfl rfl (y_gtr rfl rfl) ?_
            refine o_val rfl rfl rfl (y_pick_f (v := (.bool _)) rfl rfl) ?_
            refine o_nil ?_
            refine s_if rfl (fun h20 => ?_) (fun h21 => ?_)
            · have hbad : 8 < (mN : Int) ∨ 0 < u.rest.length := by omega
              refine s_seq ?_
              refine s_region ?_
              refine o_val rfl rfl rfl (y_assign (v := (.int _ _)) rfl) ?_
              refine o_nil ?_
              refine s_ret ?_
              have hpe : parse n bs = ⟨3, 0, 0, []⟩ := by
                          unfold parse
                          rw [if_neg (by omega), if_neg (fun hh => hh heq), hm8, Int.toNat_natCast, hgo, show mN - u.i = 0 by omega]; simp only [msgGo, Option.map_some]; rw [if_pos hbad]
              have he : (inErr n bs (sn : Int)) = 3 := by unfold inErr; rw [hpe]; rfl
              exact ⟨_, _, res1 rfl rfl, .inl ⟨by rw [he]; decide, congrArg (Value.int .i64) he.symm, rfl⟩, sub_picks [0, 0, 0] rfl⟩
            · have hbad : ¬ (8 < (mN : Int) ∨ 0 < u.rest.length) := by omega
              refine s_skip ?_
              refine s_seq ?_
              refine s_seq ?_
              refine s_region ?_
              have hpe : parse n bs = ⟨0, val ((bs.take (((n : Nat) : Int) - 8).toNat).take 4), val (((bs.take (((n : Nat) : Int) - 8).toNat).drop 4).take 4), (u.fs.map (·.bs))⟩ := by unfold parse; rw [if_neg (by omega), if_neg (fun hh => hh heq), hm8, Int.toNat_natCast, hgo, show mN - u.i = 0 by omega]; simp only [msgGo, Option.map_some]; rw [if_neg hbad, List.append_nil]
              have hpb := parse_bd h.1 h.2.2.2
              rw [hpe] at hpb
              simp only [List.length_map] at hpb
              refine o_val rfl rfl rfl (y_move (v := (.int _ _)) rfl) ?_
              refine o_val rfl rfl rfl (y_move (v := (.pointer _)) rfl) ?_
              refine o_val rfl rfl rfl (y_nilCheck rfl) ?_
              refine o_val rfl rfl rfl (y_field0 Try.runUnderlying62 rfl Try.sizeOf60 rfl rfl) ?_
              refine o_val rfl rfl rfl (y_load Try.isAgg60 rfl (cel_own 0 rfl rfl)) ?_
              refine o_val rfl rfl rfl (y_len Try.runUnderlying60 rfl) ?_
              refine o_val rfl rfl rfl (y_gtr rfl rfl) ?_
              refine o_nil ?_
              refine s_forget [(0, (.pointer _)), (7, (.int _ _)), (8, (.int _ _)), (10, (.slice _ _ _)), (90, (.bool _))] ⟨rfl, rfl, rfl, rfl, rfl, trivial⟩ (fun _f => ?_)
              refine s_if rfl (fun h22 => ?_) (fun h23 => ?_)
              · refine s_seq ?_
                refine s_region ?_
                refine o_val rfl rfl rfl (y_assign (v := (.int _ _)) rfl) ?_
                refine o_nil ?_
                refine s_ret ?_
                have he : (inErr n bs (sn : Int)) = 9 := by unfold inErr; rw [if_neg (fun hh => hh (by rw [hpe])), if_pos (by rw [hpe]; dsimp only; omega)]
                exact ⟨_, _, res1 rfl rfl, .inl ⟨by rw [he]; decide, congrArg (Value.int .i64) he.symm, rfl⟩, sub_picks [0, 0, 0] rfl⟩
              · refine s_skip ?_
                refine s_seq ?_
                refine s_region ?_
                refine o_val rfl rfl rfl (y_move (v := (.pointer _)) rfl) ?_
                refine o_val rfl rfl rfl (y_move (v := (.pointer _)) rfl) ?_
                refine o_val rfl rfl rfl (y_nilCheck rfl) ?_
                refine o_val rfl rfl rfl (y_field0 Try.runUnderlying62 rfl Try.sizeOf3 rfl rfl) ?_
                refine o_val rfl rfl rfl (y_load Try.isAgg3 rfl (cel_own 0 rfl rfl)) ?_
                refine o_val rfl rfl rfl (y_move (v := (.int _ _)) rfl) ?_
                refine o_val rfl rfl rfl (y_max rfl rfl) ?_
                refine o_val rfl rfl rfl (y_nilCheck rfl) ?_
                refine o_val rfl rfl rfl (y_field0 Try.runUnderlying62 rfl Try.sizeOf3 rfl rfl) ?_
                refine o_store (v := (.int _ _)) 0 rfl Try.sizeOf3 rfl rfl rfl rfl ?_
                refine o_nil ?_
                refine s_seq ?_
                refine s_seq ?_
                refine s_region ?_
                have hall0 : ∀ f ∈ gs ++ u.fs, BlIn (u.PG ++ PG) f := fun f hf => (List.mem_append.1 hf).elim (fun hf => (hin f hf).grow) (fun hf => (hinm f hf).grow')
                refine o_pull 2 ?_
                refine o_pull 4 ?_
                refine o_fuse ?_
                refine o_val rfl rfl rfl (y_move (v := (.slice _ _ _)) rfl) ?_
                refine o_val rfl rfl rfl (y_len Try.runUnderlying60 rfl) ?_
                refine o_val rfl rfl rfl (y_move (v := (.int _ _)) rfl) ?_
                refine o_nil ?_
                refine s_block ?_
                refine s_sub_picks [1, 1, 0, 0] rfl ?_
                refine s_loop (γ := IL) (fun v => [(0, .pointer (some ⟨b, 0, none⟩)), (8, .int .i64 (val (((bs.take (((n : Nat) : Int) - 8).toNat).drop 4).take 4))), (100, .slice u.M u.fs.length u.mc), (101, .int .i64 u.fs.length), (102, .int .i64 v.i)]) (fun v => [halfg b sA sn sc ((max acked (val ((bs.take (((n : Nat) : Int) - 8).toNat).take 4)))) ((recv (val (((bs.take (((n : Nat) : Int) - 8).toNat).drop 4).take 4)) (u.fs.map (·.bs)) came (gs.map (·.bs)) v.i).1) v.A v.gs.length v.c, v.E, (u.PG ++ PG), u.E]) (fun v => v.i ≤ u.fs.length ∧ OS v.A v.gs.length v.c 29 1 ((v.gs).flatMap encB) v.E ∧ v.gs.map (·.bs) = (recv (val (((bs.take (((n : Nat) : Int) - 8).toNat).drop 4).take 4)) (u.fs.map (·.bs)) came (gs.map (·.bs)) v.i).2 ∧ (∀ f ∈ v.gs, f ∈ gs ∨ f ∈ u.fs)) (fun v => u.fs.length - v.i) (IL.mk 0 nA nc gs NG) ?_ ⟨rfl, rfl, rfl, rfl, rfl, trivial⟩ (by dsimp only; rw [hgl]; exact sub_front ⟨_, rfl⟩) ?_
                · exact ⟨Nat.zero_le _, (by dsimp only; rw [hgl]; exact hog), rfl, fun f hf => .inl hf⟩
                · intro v _f hJ2
                  obtain ⟨hvi, hog2, hmap, hmem⟩ := hJ2
                  have hrb := recv_bd (val (((bs.take (((n : Nat) : Int) - 8).toNat).drop 4).take 4)) (u.fs.map (·.bs)) came (gs.map (·.bs)) v.i
                  have hml := congrArg List.length hmap
                  rw [List.length_map] at hml hrb
                  refine s_seq ?_
                  refine s_region ?_
                  refine o_val rfl rfl rfl (y_lss rfl rfl) ?_
                  refine o_nil ?_
                  refine s_seq ?_
                  refine s_if rfl (fun h24 => ?_) (fun h25 => ?_)
                  · refine s_skip ?_
                    refine s_seq ?_
                    refine s_block ?_
                    refine s_seq ?_
                    refine s_region ?_
                    refine o_val rfl rfl rfl (y_move (v := (.int _ _)) rfl) ?_
                    refine o_val rfl rfl rfl (y_index1 Try.runUnderlying60 Try.sizeOf29 (hou.some_of (by omega)) rfl rfl (by omega)) ?_
                    refine o_val rfl rfl rfl (y_load Try.isAgg29 rfl (cel_B (hou.cels (j := 3) rfl) (by omega))) ?_
                    refine o_val rfl rfl rfl (y_assign (v := (.int _ _)) rfl) ?_
                    refine o_val rfl rfl rfl (y_assign (v := (.slice _ _ _)) rfl) ?_
                    refine o_nil ?_
                    refine s_seq ?_
                    refine s_region ?_
                    refine o_val rfl rfl rfl (y_move (v := (.int _ _)) rfl) ?_
                    refine o_val rfl rfl rfl (y_move (v := (.int _ _)) rfl) ?_
                    refine o_val rfl rfl rfl (y_add rfl rfl (by simp only [inK]; omega)) ?_
                    refine o_val rfl rfl rfl (y_move (v := (.pointer _)) rfl) ?_
                    refine o_val rfl rfl rfl (y_nilCheck rfl) ?_
                    refine o_val rfl rfl rfl (y_field0 Try.runUnderlying62 rfl Try.sizeOf3 rfl rfl) ?_
                    refine o_val rfl rfl rfl (y_load Try.isAgg3 rfl (cel_own 0 rfl rfl)) ?_
                    refine o_val rfl rfl rfl (y_eql rfl rfl) ?_
                    refine o_nil ?_
                    refine s_if rfl (fun h26 => ?_) (fun h27 => ?_)
                    · have hyes := h26
                      refine s_seq ?_
                      refine s_region ?_
                      refine o_val rfl rfl rfl (y_move (v := (.pointer _)) rfl) ?_
                      refine o_val rfl rfl rfl (y_move (v := (.pointer _)) rfl) ?_
                      refine o_val rfl rfl rfl (y_nilCheck rfl) ?_
                      refine o_val rfl rfl rfl (y_field0 Try.runUnderlying62 rfl Try.sizeOf60 rfl rfl) ?_
                      refine o_val rfl rfl rfl (y_load Try.isAgg60 rfl (cel_own 0 rfl rfl)) ?_
                      refine o_val rfl rfl rfl (y_move (v := (.slice _ _ _)) rfl) ?_
                      refine o_lit (vs := [(0, .slice _ _ _)]) rfl rfl (TakeH_k0 _ _ _) (fun b28 => ?_)
                      refine o_append (sz := 1) (bytes := 24) (news := [(.slice _ _ _)]) 1 rfl Try.underlying60 Try.type29 rfl rfl rfl rfl rfl hog2 rfl rfl (Src.slice Try.underlying60 (cels_own 4 rfl rfl) rfl (by simp [Value.oneCell']) (by simp)) (by omega) (fun A29 c30 E31 ho32 hn33 => ?_)
                      have ho34 : OS A29 (v.gs.length + 1) c30 29 1 ((v.gs ++ [(u.fs.getD ((v.i : Nat) : Int).toNat default)]).flatMap encB) E31 := (os_eq ho32 (by rw [List.flatMap_append]; rfl))
                      clear ho32
                      refine o_val rfl rfl rfl (y_nilCheck rfl) ?_
                      refine o_val rfl rfl rfl (y_field0 Try.runUnderlying62 rfl Try.sizeOf60 rfl rfl) ?_
                      refine o_store (v := (.slice _ _ _)) 0 rfl Try.sizeOf60 rfl rfl rfl rfl ?_
                      refine o_nil ?_
                      refine s_norm [[(_, .cells [(.slice _ _ _), (.int _ _), (.int _ _), (.slice _ _ _)].toArray 62 (0, 0))], _, _, _, [(_, .cells [(.slice _ _ _)].toArray 29 (0, 0))]] rfl ?_
                      refine s_region ?_
                      refine o_val rfl rfl rfl (y_move (v := (.pointer _)) rfl) ?_
                      refine o_val rfl rfl rfl (y_nilCheck rfl) ?_
                      refine o_val rfl rfl rfl (y_field0 Try.runUnderlying62 rfl Try.sizeOf3 rfl rfl) ?_
                      refine o_val rfl rfl rfl (y_load Try.isAgg3 rfl (cel_own 0 rfl rfl)) ?_
                      refine o_val rfl rfl rfl (y_add rfl rfl (by simp only [inK]; omega)) ?_
                      refine o_val rfl rfl rfl (y_nilCheck rfl) ?_
                      refine o_val rfl rfl rfl (y_field0 Try.runUnderlying62 rfl Try.sizeOf3 rfl rfl) ?_
                      refine o_store (v := (.int _ _)) 0 rfl Try.sizeOf3 rfl rfl rfl rfl ?_
                      refine o_nil ?_
                      refine s_region ?_
                      refine o_val rfl rfl rfl (y_add rfl rfl (by simp only [inK]; omega)) ?_
                      refine o_val rfl rfl rfl (y_move (v := (.int _ _)) rfl) ?_
                      refine o_nil ?_
                      have hrc := recv_yes (ms := (u.fs.map (·.bs))) hyes
                      exact ⟨IL.mk (v.i + 1) A29 c30 (v.gs ++ [(u.fs.getD ((v.i : Nat) : Int).toNat default)]) E31, (by first | omega | (dsimp only; omega)), ⟨by dsimp only; omega, (by dsimp only; rw [List.length_append]; exact ho34), (by dsimp only; rw [List.map_append, hmap, hrc, map_getD (by omega)]; rfl), fun f hf => (List.mem_append.1 hf).elim (hmem f) (fun hf => .inr (List.mem_singleton.1 hf ▸ getD_memF (by omega)))⟩, ⟨rfl, rfl, rfl, rfl, (congrArg (Value.int .i64) (by dsimp only; omega)), trivial⟩, (by dsimp only; rw [List.length_append, hrc]; exact sub_picks [0, 0, 0, 0] rfl)⟩
                    · have hno := h27
                      refine s_skip ?_
                      refine s_region ?_
                      refine o_val rfl rfl rfl (y_add rfl rfl (by simp only [inK]; omega)) ?_
                      refine o_val rfl rfl rfl (y_move (v := (.int _ _)) rfl) ?_
                      refine o_nil ?_
                      have hrc := recv_no (ms := (u.fs.map (·.bs))) hno
                      exact ⟨IL.mk (v.i + 1) v.A v.c v.gs v.E, (by first | omega | (dsimp only; omega)), ⟨by dsimp only; omega, hog2, (by dsimp only; rw [hmap, hrc]), hmem⟩, ⟨rfl, rfl, rfl, rfl, (congrArg (Value.int .i64) (by dsimp only; omega)), trivial⟩, (by dsimp only; rw [hrc]; exact sub_picks [0, 0, 0, 0] rfl)⟩
                  · refine s_exit ?_
                    refine s_seq ?_
                    refine s_region ?_
                    refine o_val rfl rfl rfl (y_assign (v := (.int _ _)) rfl) ?_
                    refine o_nil ?_
                    refine s_ret ?_
                    have hul : v.i = u.fs.length := by omega
                    have he : (inErr n bs (sn : Int)) = 0 := by unfold inErr; rw [if_neg (fun hh => hh (by rw [hpe])), if_neg (by rw [hpe]; dsimp only; omega)]
                    rw [hul] at hmap
                    refine ⟨_, _, res1 rfl rfl, .inr ⟨he, rfl, _, _, v.gs, _, _, (by rw [hpe]; dsimp only; rw [List.length_map]; exact hmap), hog2, (fun f hf => (hmem f hf).elim (fun hf => hall0 f (List.mem_append_left _ hf)) (fun hf => hall0 f (List.mem_append_right _ hf))), rfl⟩, (by rw [hpe, hul]; dsimp only; rw [List.length_map]; exact sub_picks [0, 0, 0] rfl)⟩

end Go.Proofs.Ytdgmocibjjkghaa.K
