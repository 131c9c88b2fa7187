/- Walks: the difference of two lists, as the program writes it. No condition beyond what each statement names. -/
import Derived.Test.YtoigljcmpicgfaaProg
import Derived.Test.YtoigljcmpicgfaaB6
import Derived.Test.YtoigljcmpicgfaaI1
import Derived.Test.YtoigljcmpicgfaaI3
import Derived.Test.YtoigljcmpicgfaaD1
import Derived.Test.YtoigljcmpicgfaaD2
set_option linter.unusedVariables false
set_option linter.unusedSimpArgs false
set_option maxRecDepth 100000
namespace Go.Proofs.Ytoigljcmpicgfaa.K
open Go.RowKit

/-- What Ints answers. -/
def inOK (xs ys bs : List Int) (er : Int) : Prop :=
  (er = 0 ∧ xs.length ≤ 65536 ∧ ys.length ≤ 65536 ∧ (dAll (sumI xs) (sumI ys) xs ys).length ≤ 524288 ∧ Wr bs (dAll (sumI xs) (sumI ys) xs ys)) ∨
  (er = 2 ∧ bs = [] ∧ ¬ (xs.length ≤ 65536 ∧ ys.length ≤ 65536 ∧ (dAll (sumI xs) (sumI ys) xs ys).length ≤ 524288))
theorem wOK_head {s1 s2 : Int} {n : Nat} (hn : n < 18446744073709551616) : wOK (dHead s1 s2 n ++ []) 0 (wB ([] ++ bitsOf s1 64 ++ bitsOf s2 64) (natB n)) := by
  have h1 := (natB_bd hn).2
  have h2 := dHead_len (s1 := s1) (s2 := s2) hn
  have e : wB ([] ++ bitsOf s1 64 ++ bitsOf s2 64) (natB n) = dHead s1 s2 n := by
    unfold wB; rw [if_neg (by simp [bitsOf_len]; omega)]; rfl
  rw [e, List.append_nil]
  exact ⟨by omega, .inl ⟨rfl, rfl⟩⟩
theorem wOK_eq {full full' bits : List Bool} {err : Int} (h : wOK full err bits) (e : full = full') : wOK full' err bits := e ▸ h
theorem d_same {old new : List Int} {k : Nat} (h : new.getD k 0 = base old k) : dRun old new (k + 1) = dRun old new k + 1 ∧ dBits old new (k + 1) = dBits old new k := by
  simp only [dRun, dBits]; rw [if_pos h, if_pos h]; exact ⟨rfl, rfl⟩
theorem d_other {old new : List Int} {k : Nat} (h : ¬ new.getD k 0 = base old k) : dRun old new (k + 1) = 0 ∧ dBits old new (k + 1) = dBits old new k ++ natB (dRun old new k) ++ natB (zz (dd old new k)) := by
  simp only [dRun, dBits]; rw [if_neg h, if_neg h]; exact ⟨rfl, rfl⟩

theorem Ints_k0 (w : World) : (Instr.build 153 ([] : List (Nat × Value)).toArray).run Try.prog w = .ok (.agg #[.slice none 0 0, .int .i64 0]) w := by kernel_rfl
theorem Ints_c {V : Mem} (A : Option Addr) (n c : Nat) (xs : List Int) (h : Cels V [] A (xs.map (.int .i64))) (hn : xs.length = n) (B : Option Addr) (m d : Nat) (ys : List Int) (h' : Cels V [] B (ys.map (.int .i64))) (hm : ys.length = m) :
    CallS Try.prog 42 [.slice A n c, .slice B m d].toArray V [] (fun r L' => ∃ R k e bs G er, r = .tuple #[.slice R k e, .int .i64 er] ∧ OS R k e 5 1 (bs.map (.int .u8)) G ∧ L' = [G] ∧ inOK xs ys bs er) := by
  refine callS Try.func42 rfl rfl (fun w0 => ?_)
  refine s_seq ?_
  refine s_region ?_
  refine o_val rfl rfl rfl (y_assign (v := (.slice _ _ _)) rfl) ?_
  refine o_val rfl rfl rfl (y_assign (v := (.int _ _)) rfl) ?_
  refine o_nil ?_
  refine s_seq ?_
  refine s_seq ?_
  refine s_region ?_
  refine o_val rfl rfl rfl (y_move (v := (.slice _ _ _)) rfl) ?_
  refine o_val rfl rfl rfl (y_len Try.runUnderlying22 rfl) ?_
  refine o_split rfl rfl rfl (y_gtr rfl rfl) (fun p1 => ?_) (fun p2 => ?_)
  · refine o_val rfl rfl rfl (y_move (v := (.bool _)) rfl) ?_
    refine o_guard_no rfl rfl rfl rfl rfl ?_
    refine o_guard_no rfl rfl rfl rfl rfl ?_
    refine o_guard_no rfl rfl rfl rfl rfl ?_
    refine o_val rfl rfl rfl (y_pick_t (v := (.bool _)) rfl rfl) ?_
    refine o_nil ?_
    refine s_then rfl ?_
    refine s_seq ?_
    refine s_region ?_
    refine o_val rfl rfl rfl (y_assign (v := (.slice _ _ _)) rfl) ?_
    refine o_val rfl rfl rfl (y_assign (v := (.int _ _)) rfl) ?_
    refine o_nil ?_
    refine s_ret ?_
    exact ⟨_, [[]], res2 rfl rfl rfl, ⟨none, 0, 0, [], [], _, rfl, OS.nil _ _, rfl, .inr ⟨rfl, rfl, fun hh => by omega⟩⟩, sub_none⟩
  · refine o_val rfl rfl rfl (y_move (v := (.bool _)) rfl) ?_
    refine o_guard_yes rfl rfl ?_
    refine o_val rfl rfl rfl (y_move (v := (.slice _ _ _)) rfl) ?_
    refine o_guard_yes rfl rfl ?_
    refine o_val rfl rfl rfl (y_len Try.runUnderlying22 rfl) ?_
    refine o_guard_yes rfl rfl ?_
    refine o_val rfl rfl rfl (y_gtr rfl rfl) ?_
    refine o_val rfl rfl rfl (y_pick_f (v := (.bool _)) rfl rfl) ?_
    refine o_nil ?_
    refine s_if rfl (fun h3 => ?_) (fun h4 => ?_)
    · have hbig := h3
      refine s_seq ?_
      refine s_region ?_
      refine o_val rfl rfl rfl (y_assign (v := (.slice _ _ _)) rfl) ?_
      refine o_val rfl rfl rfl (y_assign (v := (.int _ _)) rfl) ?_
      refine o_nil ?_
      refine s_ret ?_
      exact ⟨_, [[]], res2 rfl rfl rfl, ⟨none, 0, 0, [], [], _, rfl, OS.nil _ _, rfl, .inr ⟨rfl, rfl, fun hh => by omega⟩⟩, sub_none⟩
    · have hsm := h4
      refine s_skip ?_
      refine s_seq ?_
      refine s_region ?_
      refine o_val rfl rfl rfl (y_build (vs := []) rfl (Ints_k0)) ?_
      refine o_box (v := (.agg #[(.slice _ _ _), (.int _ _)])) rfl rfl rfl (fun b5 => ?_)
      refine o_val rfl rfl rfl (y_assign (v := (.pointer _)) rfl) ?_
      refine o_nil ?_
      refine s_seq ?_
      refine s_region ?_
      refine o_newgroup ?_
      refine o_val rfl rfl rfl (y_move (v := (.pointer _)) rfl) ?_
      refine o_val rfl rfl rfl (y_move (v := (.slice _ _ _)) rfl) ?_
      refine o_fn 0 (d := 23) rfl Try.call19 (SumInts_c _ _ _ xs h.here.down hn (by omega)) rfl ?_
      rintro _ _ ⟨rfl, rfl⟩
      refine o_fn 2 (d := 24) rfl Try.call67 (Put_c _ _ _ _ _ _ _ _ 64 Wr.nil (OS.nil 5 1) (sumI_bd _) (by omega) (fun hh => absurd hh (by decide)) (by decide) _) rfl ?_
      rintro _ _ ⟨rfl, A6, m7, c8, E9, bs10, hW11, ho12, rfl⟩
      refine o_nil ?_
      refine s_seq ?_
      refine s_region ?_
      refine o_val rfl rfl rfl (y_move (v := (.pointer _)) rfl) ?_
      refine o_val rfl rfl rfl (y_move (v := (.slice _ _ _)) rfl) ?_
      refine o_fn 0 (d := 27) rfl Try.call19 (SumInts_c _ _ _ ys h'.here.down hm (by omega)) rfl ?_
      rintro _ _ ⟨rfl, rfl⟩
      refine o_fn 2 (d := 28) rfl Try.call67 (Put_c _ _ _ _ _ _ _ _ 64 hW11 ho12 (sumI_bd _) (by omega) (fun hh => absurd hh (by decide)) (by simp [bitsOf_len]) _) rfl ?_
      rintro _ _ ⟨rfl, A13, m14, c15, E16, bs17, hW18, ho19, rfl⟩
      refine o_nil ?_
      refine s_seq ?_
      refine s_region ?_
      refine o_val rfl rfl rfl (y_move (v := (.pointer _)) rfl) ?_
      refine o_val rfl rfl rfl (y_move (v := (.slice _ _ _)) rfl) ?_
      refine o_val rfl rfl rfl (y_len Try.runUnderlying22 rfl) ?_
      refine o_val rfl rfl rfl (y_conv Try.runUnderlying3 Try.runUnderlying53 rfl (by simp only [inK]; omega)) ?_
      refine o_fn 2 (d := 33) rfl Try.call68 (WNat_c _ _ _ _ _ _ _ m hW18 ho19 (by omega) (by simp [bitsOf_len]) _) rfl ?_
      rintro _ _ ⟨rfl, A20, m21, c22, E23, bs24, hW25, ho26, rfl⟩
      refine o_nil ?_
      refine s_seq ?_
      refine s_region ?_
      refine o_val rfl rfl rfl (y_assign (v := (.int _ _)) rfl) ?_
      refine o_val rfl rfl rfl (y_assign (v := (.int _ _)) rfl) ?_
      refine o_nil ?_
      refine s_seq ?_
      refine s_seq ?_
      refine s_region ?_
      refine o_val rfl rfl rfl (y_move (v := (.slice _ _ _)) rfl) ?_
      refine o_val rfl rfl rfl (y_len Try.runUnderlying22 rfl) ?_
      refine o_val rfl rfl rfl (y_move (v := (.int _ _)) rfl) ?_
      refine o_nil ?_
      refine s_block ?_
      refine s_loop (γ := WS × Int) (fun g => [(0, .slice A n c), (6, .pointer (some ⟨b5, 0, none⟩)), (7, .int .i64 (dRun xs ys g.1.i : Nat)), (8, .int .i64 g.2), (34, .slice B m d), (35, .int .i64 m), (36, .int .i64 g.1.i)]) (fun g => [wgrp b5 g.1.A g.1.n g.1.c (g.1.bits.length : Nat), g.1.E]) (fun g => g.1.i ≤ m ∧ Wr g.1.bs g.1.bits ∧ OS g.1.A g.1.n g.1.c 5 1 (g.1.bs.map (.int .u8)) g.1.E ∧ wOK (dHead (sumI xs) (sumI ys) m ++ dBits xs ys g.1.i) g.2 g.1.bits) (fun g => m - g.1.i) ((WS.mk 0 A20 m21 c22 E23 bs24 _, 0)) ?_ ⟨rfl, rfl, rfl, rfl, rfl, rfl, rfl, trivial⟩ (sub_front ⟨_, rfl⟩) ?_
      · exact ⟨Nat.zero_le _, hW25, ho26, wOK_head (by omega)⟩
      · intro g _f hI
        obtain ⟨hi, hW0, ho0, hok⟩ := hI
        refine s_seq ?_
        refine s_region ?_
        refine o_val rfl rfl rfl (y_lss rfl rfl) ?_
        refine o_nil ?_
        refine s_seq ?_
        refine s_if rfl (fun h27 => ?_) (fun h28 => ?_)
        · refine s_skip ?_
          refine s_seq ?_
          refine s_block ?_
          refine s_seq ?_
          refine s_region ?_
          refine o_val rfl rfl rfl (y_move (v := (.int _ _)) rfl) ?_
          refine o_val rfl rfl rfl (y_index1 Try.runUnderlying22 Try.sizeOf3 (some_int (i := 0) h' (by omega)) rfl rfl (by omega)) ?_
          refine o_val rfl rfl rfl (y_load Try.isAgg3 rfl (cel_int h'.here (by omega))) ?_
          refine o_val rfl rfl rfl (y_assign (v := (.int _ _)) rfl) ?_
          refine o_val rfl rfl rfl (y_assign (v := (.int _ _)) rfl) ?_
          refine o_nil ?_
          refine s_seq ?_
          refine s_seq ?_
          refine s_region ?_
          refine o_val rfl rfl rfl (y_move (v := (.int _ _)) rfl) ?_
          refine o_val rfl rfl rfl (y_move (v := (.slice _ _ _)) rfl) ?_
          refine o_val rfl rfl rfl (y_move (v := (.int _ _)) rfl) ?_
          refine o_fn 0 (d := 44) rfl Try.call69 (Base_c _ _ _ xs h.here.down hn g.1.i) rfl ?_
          rintro _ _ ⟨rfl, rfl⟩
          refine o_val rfl rfl rfl (y_eql rfl rfl) ?_
          refine o_nil ?_
          refine s_if rfl (fun h29 => ?_) (fun h30 => ?_)
          · have heq : ys.getD g.1.i 0 = base xs g.1.i := h29
            refine s_seq ?_
            refine s_region ?_
            refine o_val rfl rfl rfl (y_move (v := (.int _ _)) rfl) ?_
            refine o_val rfl rfl rfl (y_add rfl rfl (by have := dRun_le xs ys g.1.i; simp only [inK]; omega)) ?_
            refine o_val rfl rfl rfl (y_assign (v := (.int _ _)) rfl) ?_
            refine o_nil ?_
            refine s_exit ?_
            refine s_region ?_
            refine o_val rfl rfl rfl (y_add rfl rfl (by simp only [inK]; omega)) ?_
            refine o_val rfl rfl rfl (y_move (v := (.int _ _)) rfl) ?_
            refine o_nil ?_
            exact ⟨(WS.mk (g.1.i + 1) g.1.A g.1.n g.1.c g.1.E g.1.bs g.1.bits, g.2), (by first | omega | (dsimp only; omega)), ⟨by dsimp only; omega, hW0, ho0, wOK_eq hok (by dsimp only; rw [(d_same heq).2])⟩, ⟨rfl, rfl, (congrArg (Value.int _) (by dsimp only; rw [(d_same heq).1]; omega)), rfl, rfl, rfl, (congrArg (Value.int _) (by dsimp only; omega)), trivial⟩, sub_front ⟨_, rfl⟩⟩
          · have heq : ¬ ys.getD g.1.i 0 = base xs g.1.i := h30
            refine s_skip ?_
            refine s_seq ?_
            refine s_region ?_
            refine o_val rfl rfl rfl (y_move (v := (.int _ _)) rfl) ?_
            refine o_val rfl rfl rfl (y_move (v := (.pointer _)) rfl) ?_
            refine o_val rfl rfl rfl (y_move (v := (.int _ _)) rfl) ?_
            refine o_val rfl rfl rfl (y_conv Try.runUnderlying3 Try.runUnderlying53 rfl (by have := dRun_le xs ys g.1.i; simp only [inK]; omega)) ?_
            refine o_fn 2 (d := 52) rfl Try.call68 (WNat_c _ _ _ _ _ _ _ (dRun xs ys g.1.i) hW0 ho0 (by have := dRun_le xs ys g.1.i; omega) hok.1 _) rfl ?_
            rintro _ _ ⟨rfl, A31, m32, c33, E34, bs35, hW36, ho37, rfl⟩
            refine o_val rfl rfl rfl (y_move (v := (.pointer _)) rfl) ?_
            refine o_val rfl rfl rfl (y_move (v := (.int _ _)) rfl) ?_
            refine o_val rfl rfl rfl (y_move (v := (.slice _ _ _)) rfl) ?_
            refine o_val rfl rfl rfl (y_move (v := (.int _ _)) rfl) ?_
            refine o_fn 0 (d := 57) rfl Try.call69 (Base_c _ _ _ xs h.here.down hn g.1.i) rfl ?_
            rintro _ _ ⟨rfl, rfl⟩
            refine o_val rfl rfl rfl (y_sub' rfl rfl) ?_
            refine o_fn 2 (d := 59) rfl Try.call70 (WInt_c _ _ _ _ _ _ _ (dd xs ys g.1.i) hW36 ho37 (dd_in _ _ _) (wB_le hok.1) _) rfl ?_
            rintro _ _ ⟨rfl, A38, m39, c40, E41, bs42, hW43, ho44, rfl⟩
            refine o_val rfl rfl rfl (y_max3 rfl rfl rfl) ?_
            refine o_val rfl rfl rfl (y_assign (v := (.int _ _)) rfl) ?_
            refine o_nil ?_
            refine s_region ?_
            refine o_val rfl rfl rfl (y_assign (v := (.int _ _)) rfl) ?_
            refine o_nil ?_
            refine s_region ?_
            refine o_val rfl rfl rfl (y_add rfl rfl (by simp only [inK]; omega)) ?_
            refine o_val rfl rfl rfl (y_move (v := (.int _ _)) rfl) ?_
            refine o_nil ?_
            exact ⟨(WS.mk (g.1.i + 1) A38 m39 c40 E41 bs42 _, _), (by first | omega | (dsimp only; omega)), ⟨by dsimp only; omega, hW43, ho44, wOK_eq (wOK_step (wOK_step hok)) (by dsimp only; rw [(d_other heq).2]; try simp only [List.append_assoc])⟩, ⟨rfl, rfl, (congrArg (Value.int _) (by dsimp only; rw [(d_other heq).1]; rfl)), rfl, rfl, rfl, (congrArg (Value.int _) (by dsimp only; omega)), trivial⟩, sub_front ⟨_, rfl⟩⟩
        · refine s_exit ?_
          refine s_seq ?_
          refine s_seq ?_
          refine s_region ?_
          have hin : g.1.i = m := by omega
          have hfit := hok.1
          refine o_val rfl rfl rfl (y_move (v := (.int _ _)) rfl) ?_
          refine o_val rfl rfl rfl (y_gtr rfl rfl) ?_
          refine o_nil ?_
          refine s_if rfl (fun h45 => ?_) (fun h46 => ?_)
          · have hrun : 0 < dRun xs ys g.1.i := by omega
            have htl : dAll (sumI xs) (sumI ys) xs ys = dHead (sumI xs) (sumI ys) m ++ dBits xs ys g.1.i ++ natB (dRun xs ys g.1.i) := by unfold dAll dTail; rw [hm, hin, if_pos (hin ▸ hrun)]
            refine s_region ?_
            refine o_val rfl rfl rfl (y_move (v := (.int _ _)) rfl) ?_
            refine o_val rfl rfl rfl (y_move (v := (.pointer _)) rfl) ?_
            refine o_val rfl rfl rfl (y_move (v := (.int _ _)) rfl) ?_
            refine o_val rfl rfl rfl (y_conv Try.runUnderlying3 Try.runUnderlying53 rfl (by have := dRun_le xs ys g.1.i; simp only [inK]; omega)) ?_
            refine o_fn 2 (d := 68) rfl Try.call68 (WNat_c _ _ _ _ _ _ _ (dRun xs ys g.1.i) hW0 ho0 (by have := dRun_le xs ys g.1.i; omega) hfit _) rfl ?_
            rintro _ _ ⟨rfl, A47, m48, c49, E50, bs51, hW52, ho53, rfl⟩
            have hok2 := wOK_step (x := natB (dRun xs ys g.1.i)) hok
            refine o_val rfl rfl rfl (y_max rfl rfl) ?_
            refine o_val rfl rfl rfl (y_assign (v := (.int _ _)) rfl) ?_
            refine o_nil ?_
            refine s_seq ?_
            refine s_seq ?_
            refine s_region ?_
            refine o_val rfl rfl rfl (y_move (v := (.int _ _)) rfl) ?_
            refine o_val rfl rfl rfl (y_neq rfl rfl) ?_
            refine o_nil ?_
            refine s_if rfl (fun h54 => ?_) (fun h55 => ?_)
            · have herr := h54
              have hlen : 524288 < (dAll (sumI xs) (sumI ys) xs ys).length := by rw [htl]; exact (hok2.2.resolve_left (fun hh => herr hh.1)).2
              refine s_seq ?_
              refine s_region ?_
              refine o_val rfl rfl rfl (y_assign (v := (.slice _ _ _)) rfl) ?_
              refine o_val rfl rfl rfl (y_assign (v := (.int _ _)) rfl) ?_
              refine o_nil ?_
              refine s_ret ?_
              exact ⟨_, [[]], res2 rfl rfl rfl, ⟨none, 0, 0, [], [], _, rfl, OS.nil _ _, rfl, .inr ⟨rfl, rfl, fun hh => by omega⟩⟩, sub_none⟩
            · have herr := Decidable.not_not.1 h55
              have hpair := hok2.2.resolve_right (fun hh => absurd (hh.1.symm.trans herr) (by decide))
              have hfin := hpair.2.trans htl.symm
              have hlen : (dAll (sumI xs) (sumI ys) xs ys).length ≤ 524288 := by rw [← hfin]; exact hok2.1
              refine s_skip ?_
              refine s_seq ?_
              refine s_region ?_
              refine o_val rfl rfl rfl (y_move (v := (.pointer _)) rfl) ?_
              refine o_fn 2 (d := 73) rfl Try.call71 (Bytes_c _ _ _ _ _ _ _ ho53 (by have h1 := ho53.len; have h2 := hW52.1; have h3 := hok2.1; simp only [List.length_map] at h1; omega) _) rfl ?_
              rintro _ _ ⟨RB, re, RG, rfl, hR, rfl⟩
              refine o_val rfl rfl rfl (y_assign (v := (.slice _ _ _)) rfl) ?_
              refine o_val rfl rfl rfl (y_assign (v := (.int _ _)) rfl) ?_
              refine o_nil ?_
              refine s_ret ?_
              exact ⟨_, [RG], res2 rfl rfl rfl, ⟨_, _, _, _, _, _, rfl, hR, rfl, .inl ⟨rfl, by omega, by omega, hlen, hfin ▸ hW52⟩⟩, sub_picks [2] rfl⟩
          · have hrun : ¬ 0 < dRun xs ys g.1.i := by omega
            have htl : dAll (sumI xs) (sumI ys) xs ys = dHead (sumI xs) (sumI ys) m ++ dBits xs ys g.1.i := by unfold dAll dTail; rw [hm, hin, if_neg (hin ▸ hrun), List.append_nil]
            have hok2 := hok
            refine s_skip ?_
            refine s_seq ?_
            refine s_seq ?_
            refine s_region ?_
            refine o_val rfl rfl rfl (y_move (v := (.int _ _)) rfl) ?_
            refine o_val rfl rfl rfl (y_neq rfl rfl) ?_
            refine o_nil ?_
            refine s_if rfl (fun h56 => ?_) (fun h57 => ?_)
            · have herr := h56
              have hlen : 524288 < (dAll (sumI xs) (sumI ys) xs ys).length := by rw [htl]; exact (hok2.2.resolve_left (fun hh => herr hh.1)).2
              refine s_seq ?_
              refine s_region ?_
              refine o_val rfl rfl rfl (y_assign (v := (.slice _ _ _)) rfl) ?_
              refine o_val rfl rfl rfl (y_assign (v := (.int _ _)) rfl) ?_
              refine o_nil ?_
              refine s_ret ?_
              exact ⟨_, [[]], res2 rfl rfl rfl, ⟨none, 0, 0, [], [], _, rfl, OS.nil _ _, rfl, .inr ⟨rfl, rfl, fun hh => by omega⟩⟩, sub_none⟩
            · have herr := Decidable.not_not.1 h57
              have hpair := hok2.2.resolve_right (fun hh => absurd (hh.1.symm.trans herr) (by decide))
              have hfin := hpair.2.trans htl.symm
              have hlen : (dAll (sumI xs) (sumI ys) xs ys).length ≤ 524288 := by rw [← hfin]; exact hok2.1
              refine s_skip ?_
              refine s_seq ?_
              refine s_region ?_
              refine o_val rfl rfl rfl (y_move (v := (.pointer _)) rfl) ?_
              refine o_fn 2 (d := 73) rfl Try.call71 (Bytes_c _ _ _ _ _ _ _ ho0 (by have h1 := ho0.len; have h2 := hW0.1; have h3 := hok2.1; simp only [List.length_map] at h1; omega) _) rfl ?_
              rintro _ _ ⟨RB, re, RG, rfl, hR, rfl⟩
              refine o_val rfl rfl rfl (y_assign (v := (.slice _ _ _)) rfl) ?_
              refine o_val rfl rfl rfl (y_assign (v := (.int _ _)) rfl) ?_
              refine o_nil ?_
              refine s_ret ?_
              exact ⟨_, [RG], res2 rfl rfl rfl, ⟨_, _, _, _, _, _, rfl, hR, rfl, .inl ⟨rfl, by omega, by omega, hlen, hfin ▸ hW0⟩⟩, sub_picks [2] rfl⟩

end Go.Proofs.Ytoigljcmpicgfaa.K
