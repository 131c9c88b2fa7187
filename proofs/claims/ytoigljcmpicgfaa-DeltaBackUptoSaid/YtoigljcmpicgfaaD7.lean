/- Walks: Back, which reads a difference, and the facts that a difference is written and read. No condition beyond what each statement names. -/
import Derived.Test.YtoigljcmpicgfaaProg
import Derived.Test.YtoigljcmpicgfaaB8
import Derived.Test.YtoigljcmpicgfaaI1
import Derived.Test.YtoigljcmpicgfaaI4
import Derived.Test.YtoigljcmpicgfaaI7
import Derived.Test.YtoigljcmpicgfaaI8
import Derived.Test.YtoigljcmpicgfaaI9
import Derived.Test.YtoigljcmpicgfaaD1
import Derived.Test.YtoigljcmpicgfaaD2
import Derived.Test.YtoigljcmpicgfaaD3
import Derived.Test.YtoigljcmpicgfaaD4
import Derived.Test.YtoigljcmpicgfaaD5
import Derived.Test.YtoigljcmpicgfaaD6
set_option linter.unusedVariables false
set_option linter.unusedSimpArgs false
set_option maxRecDepth 100000
namespace Go.Proofs.Ytoigljcmpicgfaa.K
open Go.RowKit

/-- Bytes that hold the difference of a list. -/
def BGood (xs bs ys : List Int) : Prop := xs.length ≤ 65536 ∧ ys.length ≤ 65536 ∧ (∀ y ∈ ys, inK .i64 y) ∧ Wr bs (dAll (sumI xs) (sumI ys) xs ys) ∧ (dAll (sumI xs) (sumI ys) xs ys).length ≤ 524288
/-- What Back answers. -/
def bkOK (xs bs zs : List Int) (er : Int) : Prop :=
  (er = 0 → xs.length ≤ 65536 ∧ zs.length ≤ 65536 ∧ (dAll (sumI xs) (sumI zs) xs zs).length ≤ 524288 ∧ Wr bs (dAll (sumI xs) (sumI zs) xs zs)) ∧ (¬ er = 0 → zs = []) ∧ (∀ ys, BGood xs bs ys → er = 0 ∧ zs = ys) ∧ (er = 0 ∨ er = 14 ∨ er = 13 ∨ er = 3 ∨ er = 2) ∧ (xs.length ≤ 65536 → bs.length < 8 → er = 14)
theorem wr_at {bs : List Int} {l : List Bool} (h : Wr bs l) : bitsAt bs (8 * bs.length) 0 l := by
  have h1 := h.1
  refine ⟨by omega, fun j hj => ?_⟩
  rw [Nat.zero_add]
  exact h.bit (by omega)
theorem num64 {bs : List Int} {N p : Nat} {v : Int} (hv : 0 ≤ v ∧ v ≤ 18446744073709551615) (h : bitsAt bs N p (bitsOf v 64)) : (num bs p 64 : Int) = v :=
  num_of ⟨hv.1, by omega⟩ fun i hi => by rw [h.2 i (by rw [bitsOf_len]; exact hi), bitsOf_getD hi]
theorem BG_parts {xs bs ys : List Int} (h : BGood xs bs ys) : 128 ≤ 8 * bs.length ∧ (num bs 0 64 : Int) = sumI xs ∧ (num bs 64 64 : Int) = sumI ys ∧ Good bs (8 * bs.length) 128 xs ys := by
  obtain ⟨h1, h2, h3, h4, h5⟩ := h
  have ha := wr_at h4
  unfold dAll dHead at ha
  have a1 : bitsAt bs (8 * bs.length) 0 ([] ++ bitsOf (sumI xs) 64 ++ (bitsOf (sumI ys) 64 ++ full xs ys)) := by unfold full; simpa only [List.append_assoc, List.nil_append] using ha
  have a2 : bitsAt bs (8 * bs.length) 0 (bitsOf (sumI xs) 64 ++ bitsOf (sumI ys) 64 ++ full xs ys) := by unfold full; simpa only [List.append_assoc] using ha
  have a3 : bitsAt bs (8 * bs.length) 0 ((bitsOf (sumI xs) 64 ++ bitsOf (sumI ys) 64) ++ full xs ys ++ []) := by rw [List.append_nil]; exact a2
  have m1 := bitsAt_mid a1
  have m2 := bitsAt_mid a2
  have m3 := bitsAt_mid a3
  simp only [List.length_nil, List.length_append, bitsOf_len, Nat.zero_add] at m1 m2 m3
  refine ⟨?_, num64 (sumI_bd _) m1, num64 (sumI_bd _) m2, h2, h3, m3⟩
  have := m2.1; rw [bitsOf_len] at this; omega
theorem in_zero {xs ys bs : List Int} {er : Int} (h : inOK xs ys bs er) (he : er = 0) : xs.length ≤ 65536 ∧ ys.length ≤ 65536 ∧ (dAll (sumI xs) (sumI ys) xs ys).length ≤ 524288 ∧ Wr bs (dAll (sumI xs) (sumI ys) xs ys) := by
  rcases h with h | h
  · exact h.2
  · rw [h.1] at he; cases he
theorem in_good {xs ys bs ibs : List Int} {er : Int} (h : inOK xs ys ibs er) (hg : BGood xs bs ys) : er = 0 ∧ ibs = bs := by
  rcases h with h | h
  · exact ⟨h.1, h.2.2.2.2.unique hg.2.2.2.1⟩
  · exact absurd ⟨hg.1, hg.2.1, hg.2.2.2.2⟩ h.2.2

theorem Back_c {V : Mem} (A : Option Addr) (n c : Nat) (xs : List Int) (h : Cels V [] A (xs.map (.int .i64))) (hn : xs.length = n) (B : Option Addr) (m d : Nat) (bs : List Int) (h' : Cels V [] B (bs.map (.int .u8))) (hm : bs.length = m) (hbd : ∀ b ∈ bs, 0 ≤ b ∧ b ≤ 255) (hsz : m ≤ 140737488355328) :
    CallS Try.prog 10 [.slice A n c, .slice B m d].toArray V [] (fun r L' => ∃ R k e zs G er, r = .tuple #[.slice R k e, .int .i64 er] ∧ OS R k e 3 1 (zs.map (.int .i64)) G ∧ L' = [G] ∧ bkOK xs bs zs er) := by
  refine callS Try.func10 rfl rfl (fun w0 => ?_)
  refine s_seq ?_
  refine s_region ?_
  refine o_val rfl rfl rfl (y_assign (v := (.slice _ _ _)) rfl) ?_
  refine o_val rfl rfl rfl (y_assign (v := (.int _ _)) rfl) ?_
  refine o_nil ?_
  refine s_seq ?_
  refine s_seq ?_
  refine s_region ?_
  refine o_val rfl rfl rfl (y_move (v := (.slice _ _ _)) rfl) ?_
  refine o_val rfl rfl rfl (y_len Try.runUnderlying22 rfl) ?_
  refine o_val rfl rfl rfl (y_gtr rfl rfl) ?_
  refine o_nil ?_
  refine s_if rfl (fun h1 => ?_) (fun h2 => ?_)
  · have hbig := h1
    refine s_seq ?_
    refine s_region ?_
    refine o_val rfl rfl rfl (y_assign (v := (.slice _ _ _)) rfl) ?_
    refine o_val rfl rfl rfl (y_assign (v := (.int _ _)) rfl) ?_
    refine o_nil ?_
    refine s_ret ?_
    exact ⟨_, [[]], res2 rfl rfl rfl, ⟨none, 0, 0, [], [], _, rfl, OS.nil _ _, rfl, (fun e => absurd e (by decide)), (fun _ => rfl), (fun ys hg => absurd hg (fun hg => by
      have := hg.1; omega)), by decide, fun hh => by omega⟩, sub_none⟩
  · have hsm := h2
    refine s_skip ?_
    refine s_seq ?_
    refine s_region ?_
    refine o_val rfl rfl rfl (y_move (v := (.slice _ _ _)) rfl) ?_
    refine o_fn 0 (d := 17) rfl Try.call43 (NewR_c _ m _ bs h'.here.down hm hsz) rfl ?_
    rintro _ _ ⟨rb, RB, re, RG, rfl, hRG, rfl⟩
    refine o_val rfl rfl rfl (y_assign (v := (.pointer _)) rfl) ?_
    refine o_nil ?_
    refine s_seq ?_
    refine s_region ?_
    refine o_val rfl rfl rfl (y_move (v := (.pointer _)) rfl) ?_
    refine o_fn 1 (d := 20) rfl Try.call44 (Get_c _ RB m re 0 bs (hRG.cels (j := 0) rfl).down hm hbd (Nat.zero_le _) hsz 64 (by omega)) rfl ?_
    rintro _ _ ⟨rfl, rfl⟩
    refine o_val rfl rfl rfl (y_move (v := (.tuple #[(.int _ _), (.int _ _)])) rfl) ?_
    refine o_val rfl rfl rfl (y_extract (v := (.int _ _)) rfl rfl) ?_
    refine o_val rfl rfl rfl (y_extract (v := (.int _ _)) rfl rfl) ?_
    refine o_val rfl rfl rfl (y_assign (v := (.int _ _)) rfl) ?_
    refine o_val rfl rfl rfl (y_assign (v := (.int _ _)) rfl) ?_
    refine o_nil ?_
    refine s_seq ?_
    refine s_seq ?_
    refine s_region ?_
    refine o_val rfl rfl rfl (y_move (v := (.int _ _)) rfl) ?_
    refine o_val rfl rfl rfl (y_neq rfl rfl) ?_
    refine o_nil ?_
    refine s_if rfl (fun h3 => ?_) (fun h4 => ?_)
    · have hlt : 8 * m < 0 + 64 := by unfold ge at h3; split at h3 <;> first | assumption | exact absurd rfl h3
      refine s_seq ?_
      refine s_region ?_
      refine o_val rfl rfl rfl (y_assign (v := (.slice _ _ _)) rfl) ?_
      refine o_val rfl rfl rfl (y_assign (v := (.int _ _)) rfl) ?_
      refine o_nil ?_
      refine s_ret ?_
      exact ⟨_, [[]], res2 rfl rfl rfl, ⟨none, 0, 0, [], [], _, rfl, OS.nil _ _, rfl, (fun e => absurd e (by decide)), (fun _ => rfl), (fun ys hg => absurd hg (fun hg => by
        obtain ⟨q1, q2, q3, q4⟩ := BG_parts hg; omega)), by decide, fun _ _ => rfl⟩, sub_none⟩
    · have hge1 : ¬ 8 * m < 0 + 64 := by have he := Decidable.not_not.1 h4; unfold ge at he; split at he <;> first | assumption | exact absurd he (by decide)
      have hp1 : gp (8 * m) 0 64 = 64 := by unfold gp; rw [if_neg hge1]
      have hv1 : gv bs (8 * m) 0 64 = num bs 0 64 := by unfold gv; rw [if_neg hge1]
      refine s_skip ?_
      refine s_seq ?_
      refine s_seq ?_
      refine s_region ?_
      refine o_val rfl rfl rfl (y_move (v := (.int _ _)) rfl) ?_
      refine o_val rfl rfl rfl (y_move (v := (.slice _ _ _)) rfl) ?_
      refine o_fn 0 (d := 27) rfl Try.call19 (SumInts_c _ _ _ xs h.here.down hn (by omega)) rfl ?_
      rintro _ _ ⟨rfl, rfl⟩
      refine o_val rfl rfl rfl (y_neq rfl rfl) ?_
      refine o_nil ?_
      refine s_if rfl (fun h5 => ?_) (fun h6 => ?_)
      · have hne1 := h5
        refine s_seq ?_
        refine s_region ?_
        refine o_val rfl rfl rfl (y_assign (v := (.slice _ _ _)) rfl) ?_
        refine o_val rfl rfl rfl (y_assign (v := (.int _ _)) rfl) ?_
        refine o_nil ?_
        refine s_ret ?_
        exact ⟨_, [[]], res2 rfl rfl rfl, ⟨none, 0, 0, [], [], _, rfl, OS.nil _ _, rfl, (fun e => absurd e (by decide)), (fun _ => rfl), (fun ys hg => absurd hg (fun hg => by
          obtain ⟨q1, q2, q3, q4⟩ := BG_parts hg; exact hne1 (by rw [hv1]; exact q2))), by decide, fun _ hh => by omega⟩, sub_none⟩
      · have heq1 := h6
        refine s_skip ?_
        refine s_seq ?_
        refine s_region ?_
        refine o_val rfl rfl rfl (y_move (v := (.pointer _)) rfl) ?_
        refine o_fn 1 (d := 31) rfl Try.call44 (Get_c _ RB m re (gp (8 * m) 0 64) bs (hRG.cels (j := 0) rfl).down hm hbd (gp_le (Nat.zero_le _)) hsz 64 (by omega)) rfl ?_
        rintro _ _ ⟨rfl, rfl⟩
        refine o_val rfl rfl rfl (y_move (v := (.tuple #[(.int _ _), (.int _ _)])) rfl) ?_
        refine o_val rfl rfl rfl (y_extract (v := (.int _ _)) rfl rfl) ?_
        refine o_val rfl rfl rfl (y_extract (v := (.int _ _)) rfl rfl) ?_
        refine o_val rfl rfl rfl (y_assign (v := (.int _ _)) rfl) ?_
        refine o_val rfl rfl rfl (y_assign (v := (.int _ _)) rfl) ?_
        refine o_nil ?_
        refine s_seq ?_
        refine s_seq ?_
        refine s_region ?_
        refine o_val rfl rfl rfl (y_move (v := (.int _ _)) rfl) ?_
        refine o_val rfl rfl rfl (y_neq rfl rfl) ?_
        refine o_nil ?_
        refine s_if rfl (fun h7 => ?_) (fun h8 => ?_)
        · have hlt : 8 * m < 64 + 64 := by rw [hp1] at h7; unfold ge at h7; split at h7 <;> first | assumption | exact absurd rfl h7
          refine s_seq ?_
          refine s_region ?_
          refine o_val rfl rfl rfl (y_assign (v := (.slice _ _ _)) rfl) ?_
          refine o_val rfl rfl rfl (y_assign (v := (.int _ _)) rfl) ?_
          refine o_nil ?_
          refine s_ret ?_
          exact ⟨_, [[]], res2 rfl rfl rfl, ⟨none, 0, 0, [], [], _, rfl, OS.nil _ _, rfl, (fun e => absurd e (by decide)), (fun _ => rfl), (fun ys hg => absurd hg (fun hg => by
            obtain ⟨q1, q2, q3, q4⟩ := BG_parts hg; omega)), by decide, fun _ _ => rfl⟩, sub_none⟩
        · have hge2 : ¬ 8 * m < 64 + 64 := by have he := Decidable.not_not.1 h8; rw [hp1] at he; unfold ge at he; split at he <;> first | assumption | exact absurd he (by decide)
          have hp2 : gp (8 * m) (gp (8 * m) 0 64) 64 = 128 := by rw [hp1]; unfold gp; rw [if_neg hge2]
          have hv2 : gv bs (8 * m) (gp (8 * m) 0 64) 64 = num bs 64 64 := by rw [hp1]; unfold gv; rw [if_neg hge2]
          refine s_skip ?_
          refine s_seq ?_
          refine s_region ?_
          refine o_val rfl rfl rfl (y_move (v := (.pointer _)) rfl) ?_
          refine o_val rfl rfl rfl (y_move (v := (.slice _ _ _)) rfl) ?_
          refine o_fn 1 (d := 39) rfl Try.call45 (body_c _ RB m re (gp (8 * m) (gp (8 * m) 0 64) 64) bs (hRG.cels (j := 0) rfl).down hm hbd (gp_le (gp_le (Nat.zero_le _))) hsz _ _ _ xs h.here.down hn) rfl ?_
          rintro _ _ ⟨zR, zk, ze, zs, zG, zer, zp, rfl, hzo, rfl, hzl, hzv, hbody⟩
          refine o_val rfl rfl rfl (y_move (v := (.tuple #[(.slice _ _ _), (.int _ _)])) rfl) ?_
          refine o_val rfl rfl rfl (y_extract (v := (.slice _ _ _)) rfl rfl) ?_
          refine o_val rfl rfl rfl (y_extract (v := (.int _ _)) rfl rfl) ?_
          refine o_val rfl rfl rfl (y_assign (v := (.slice _ _ _)) rfl) ?_
          refine o_val rfl rfl rfl (y_assign (v := (.int _ _)) rfl) ?_
          refine o_nil ?_
          refine s_seq ?_
          refine s_seq ?_
          refine s_region ?_
          refine o_val rfl rfl rfl (y_move (v := (.int _ _)) rfl) ?_
          refine o_val rfl rfl rfl (y_neq rfl rfl) ?_
          refine o_nil ?_
          refine s_if rfl (fun h9 => ?_) (fun h10 => ?_)
          · have hbe := h9
            refine s_seq ?_
            refine s_region ?_
            refine o_val rfl rfl rfl (y_move (v := (.int _ _)) rfl) ?_
            refine o_val rfl rfl rfl (y_assign (v := (.slice _ _ _)) rfl) ?_
            refine o_val rfl rfl rfl (y_assign (v := (.int _ _)) rfl) ?_
            refine o_nil ?_
            refine s_ret ?_
            exact ⟨_, [[]], res2 rfl rfl rfl, ⟨none, 0, 0, [], [], _, rfl, OS.nil _ _, rfl, (fun e => absurd e (hbe)), (fun _ => rfl), (fun ys hg => absurd hg (fun hg => by
              obtain ⟨q1, q2, q3, q4⟩ := BG_parts hg; rw [hm, ← hp2] at q4; exact hbe (hbody ys q4).1)), by omega, fun _ hh => by omega⟩, sub_none⟩
          · have hbe := Decidable.not_not.1 h10
            refine s_skip ?_
            refine s_seq ?_
            refine s_seq ?_
            refine s_region ?_
            have hzk : zs.length = zk := by simpa using hzo.len
            refine o_val rfl rfl rfl (y_move (v := (.slice _ _ _)) rfl) ?_
            refine o_fn 0 (d := 46) rfl Try.call19 (SumInts_c _ _ _ zs (hzo.cels (j := 1) rfl).down (by simpa using hzo.len) (by omega)) rfl ?_
            rintro _ _ ⟨rfl, rfl⟩
            refine o_val rfl rfl rfl (y_move (v := (.int _ _)) rfl) ?_
            refine o_val rfl rfl rfl (y_neq rfl rfl) ?_
            refine o_nil ?_
            refine s_if rfl (fun h11 => ?_) (fun h12 => ?_)
            · have hne2 := h11
              refine s_seq ?_
              refine s_region ?_
              refine o_val rfl rfl rfl (y_assign (v := (.slice _ _ _)) rfl) ?_
              refine o_val rfl rfl rfl (y_assign (v := (.int _ _)) rfl) ?_
              refine o_nil ?_
              refine s_ret ?_
              exact ⟨_, [[]], res2 rfl rfl rfl, ⟨none, 0, 0, [], [], _, rfl, OS.nil _ _, rfl, (fun e => absurd e (by decide)), (fun _ => rfl), (fun ys hg => absurd hg (fun hg => by
                obtain ⟨q1, q2, q3, q4⟩ := BG_parts hg; rw [hm, ← hp2] at q4; have e := (hbody ys q4).2; exact hne2 (by rw [hv2, e]; exact q3.symm))), by decide, fun _ hh => by omega⟩, sub_none⟩
            · have heq2 := h12
              refine s_skip ?_
              refine s_seq ?_
              refine s_seq ?_
              refine s_region ?_
              refine o_val rfl rfl rfl (y_move (v := (.slice _ _ _)) rfl) ?_
              refine o_val rfl rfl rfl (y_move (v := (.slice _ _ _)) rfl) ?_
              refine o_fn 0 (d := 52) rfl Try.call42 (Ints_c _ _ _ xs h.here.down hn _ _ _ zs (hzo.cels (j := 1) rfl).down (by simpa using hzo.len)) rfl ?_
              rintro _ _ ⟨iR, ik, ie, ibs, iG, ier, rfl, hio, rfl, hin⟩
              refine o_val rfl rfl rfl (y_move (v := (.tuple #[(.slice _ _ _), (.int _ _)])) rfl) ?_
              refine o_val rfl rfl rfl (y_extract (v := (.slice _ _ _)) rfl rfl) ?_
              refine o_val rfl rfl rfl (y_extract (v := (.int _ _)) rfl rfl) ?_
              refine o_val rfl rfl rfl (y_assign (v := (.slice _ _ _)) rfl) ?_
              refine o_val rfl rfl rfl (y_assign (v := (.int _ _)) rfl) ?_
              refine o_nil ?_
              refine s_seq ?_
              refine s_region ?_
              refine o_val rfl rfl rfl (y_move (v := (.int _ _)) rfl) ?_
              refine o_split rfl rfl rfl (y_neq rfl rfl) (fun p13 => ?_) (fun p14 => ?_)
              · have hie := p13
                refine o_val rfl rfl rfl (y_move (v := (.bool _)) rfl) ?_
                refine o_guard_no rfl rfl rfl rfl rfl ?_
                refine o_guard_no rfl rfl rfl rfl rfl ?_
                refine o_guard_no rfl rfl rfl rfl rfl ?_
                refine o_guard_no rfl rfl rfl rfl rfl ?_
                refine o_val rfl rfl rfl (y_pick_t (v := (.bool _)) rfl rfl) ?_
                refine o_nil ?_
                refine s_then rfl ?_
                refine s_seq ?_
                refine s_region ?_
                refine o_val rfl rfl rfl (y_assign (v := (.slice _ _ _)) rfl) ?_
                refine o_val rfl rfl rfl (y_assign (v := (.int _ _)) rfl) ?_
                refine o_nil ?_
                refine s_ret ?_
                exact ⟨_, [[]], res2 rfl rfl rfl, ⟨none, 0, 0, [], [], _, rfl, OS.nil _ _, rfl, (fun e => absurd e (by decide)), (fun _ => rfl), (fun ys hg => absurd hg (fun hg => by
                  obtain ⟨q1, q2, q3, q4⟩ := BG_parts hg; rw [hm, ← hp2] at q4; have e := (hbody ys q4).2; rw [← e] at hg; exact hie (in_good hin hg).1)), by decide, fun _ hh => by omega⟩, sub_none⟩
              · have hie := Decidable.not_not.1 p14
                refine o_val rfl rfl rfl (y_move (v := (.bool _)) rfl) ?_
                refine o_guard_yes rfl rfl ?_
                refine o_val rfl rfl rfl (y_move (v := (.slice _ _ _)) rfl) ?_
                refine o_guard_yes rfl rfl ?_
                refine o_val rfl rfl rfl (y_move (v := (.slice _ _ _)) rfl) ?_
                refine o_guard_yes rfl rfl ?_
                refine o_fn 0 (d := 60) rfl Try.call14 (BEqual_c _ _ _ ibs (hio.cels (j := 0) rfl).down (by simpa using hio.len) (in_zero hin hie).2.2.2.2.1 _ _ _ bs h'.here.down hm hbd) rfl ?_
                rintro _ _ ⟨rfl, rfl⟩
                refine o_guard_yes rfl rfl ?_
                refine o_val rfl rfl rfl (y_not rfl) ?_
                refine o_val rfl rfl rfl (y_pick_f (v := (.bool _)) rfl rfl) ?_
                refine o_nil ?_
                refine s_if rfl (fun h15 => ?_) (fun h16 => ?_)
                · have hdf := h15
                  refine s_seq ?_
                  refine s_region ?_
                  refine o_val rfl rfl rfl (y_assign (v := (.slice _ _ _)) rfl) ?_
                  refine o_val rfl rfl rfl (y_assign (v := (.int _ _)) rfl) ?_
                  refine o_nil ?_
                  refine s_ret ?_
                  exact ⟨_, [[]], res2 rfl rfl rfl, ⟨none, 0, 0, [], [], _, rfl, OS.nil _ _, rfl, (fun e => absurd e (by decide)), (fun _ => rfl), (fun ys hg => absurd hg (fun hg => by
                    obtain ⟨q1, q2, q3, q4⟩ := BG_parts hg; rw [hm, ← hp2] at q4; have e := (hbody ys q4).2; rw [← e] at hg; exact hdf (in_good hin hg).2)), by decide, fun _ hh => by omega⟩, sub_none⟩
                · have hdf := Decidable.not_not.1 h16
                  refine s_skip ?_
                  refine s_seq ?_
                  refine s_region ?_
                  refine o_val rfl rfl rfl (y_move (v := (.slice _ _ _)) rfl) ?_
                  refine o_val rfl rfl rfl (y_assign (v := (.slice _ _ _)) rfl) ?_
                  refine o_val rfl rfl rfl (y_assign (v := (.int _ _)) rfl) ?_
                  refine o_nil ?_
                  refine s_ret ?_
                  exact ⟨_, [zG], res2 rfl rfl rfl, ⟨_, _, _, zs, _, _, rfl, hzo, rfl, (fun _ => by
                    have hz := in_zero hin hie
                    rw [hdf] at hz
                    exact hz), (fun hh => absurd rfl hh), (fun ys hg => by
                    obtain ⟨q1, q2, q3, q4⟩ := BG_parts hg
                    rw [hm, ← hp2] at q4
                    exact ⟨rfl, (hbody ys q4).2⟩), .inl rfl, fun _ hh => by omega⟩, sub_picks [2] rfl⟩

end Go.Proofs.Ytoigljcmpicgfaa.K
