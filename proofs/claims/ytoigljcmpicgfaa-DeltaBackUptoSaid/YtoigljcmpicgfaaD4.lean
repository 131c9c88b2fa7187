/- Walks: the reference's numbers as bits, and its difference of two lists. No condition beyond what each statement names. -/
import Derived.Test.YtoigljcmpicgfaaProg
import Derived.Test.YtoigljcmpicgfaaB6
import Derived.Test.YtoigljcmpicgfaaI1
import Derived.Test.YtoigljcmpicgfaaI5
import Derived.Test.YtoigljcmpicgfaaD1
import Derived.Test.YtoigljcmpicgfaaD2
import Derived.Test.YtoigljcmpicgfaaD3
set_option linter.unusedVariables false
set_option linter.unusedSimpArgs false
set_option maxRecDepth 100000
namespace Go.Proofs.Ytoigljcmpicgfaa.K
open Go.RowKit

theorem nat_go {v i : Nat} (h : v / 16 ^ (i + 1) ≠ 0) : natBits v i ++ bitsOf (v / 16 ^ i : Nat) 4 ++ bitsOf 1 1 = natBits v (i + 1) := by
  rw [natBits_succ, decide_eq_true h, List.append_assoc]; rfl
theorem nat_end {v i : Nat} (h : v / 16 ^ (i + 1) = 0) : natBits v i ++ bitsOf (v / 16 ^ i : Nat) 4 ++ bitsOf 0 1 = natBits v (i + 1) := by
  rw [natBits_succ, decide_eq_false (fun hh => hh h), List.append_assoc]; rfl
theorem nat_go' {bb : List Bool} {v i : Nat} (h : v / 16 ^ (i + 1) ≠ 0) : bb ++ natBits v i ++ bitsOf (v / 16 ^ i : Nat) 4 ++ bitsOf 1 1 = bb ++ natBits v (i + 1) := by
  rw [← nat_go h]; simp only [List.append_assoc]
theorem nat_end' {bb : List Bool} {v i : Nat} (h : v / 16 ^ (i + 1) = 0) (hp : ∀ j, 1 ≤ j → j ≤ i → v / 16 ^ j ≠ 0) : bb ++ natBits v i ++ bitsOf (v / 16 ^ i : Nat) 4 ++ bitsOf 0 1 = bb ++ natB v := by
  have e : grp v = i + 1 := isGrp_unique (grp_is v) ⟨by omega, h, fun j h1 h2 => hp j h1 (by omega)⟩
  unfold natB
  rw [e, ← nat_end h]; simp only [List.append_assoc]
theorem nat_bd {z : Nat} (h : z < 18446744073709551616) : 0 ≤ (z : Int) ∧ (z : Int) ≤ 18446744073709551615 := by omega
theorem pow_next (v i : Nat) : v / 16 ^ i / 16 = v / 16 ^ (i + 1) := by rw [Nat.pow_succ, ← Nat.div_div_eq_div_mul]

theorem BNat_c {V : Mem} (A : Option Addr) (n c : Nat) (bb : List Bool) (h : Cels V [] A (bb.map .bool)) (hn : bb.length = n) (v : Nat) (hv : v < 18446744073709551616) (hb : n ≤ 140737488350000) : CallS Try.prog 39 [.slice A n c, .int .u64 v].toArray V [] (fun r L' => ∃ B k e G, r = .slice B k e ∧ OS B k e 4 1 ((bb ++ natB v).map .bool) G ∧ L' = [G]) := by
  refine callS Try.func39 rfl rfl (fun w0 => ?_)
  refine s_seq ?_
  refine s_region ?_
  refine o_val rfl rfl rfl (y_assign (v := (.slice _ _ _)) rfl) ?_
  refine o_nil ?_
  refine s_block ?_
  refine s_group ?_
  refine s_loop (γ := G1) (fun g => [(0, .slice g.A g.n g.c), (1, .int .u64 ((v / 16 ^ g.i : Nat) : Int))]) (fun g => [g.E]) (fun g => g.i ≤ 15 ∧ (∀ j, 1 ≤ j → j ≤ g.i → v / 16 ^ j ≠ 0) ∧ Cels V [g.E] g.A ((bb ++ natBits v g.i).map .bool) ∧ (bb ++ natBits v g.i).length = g.n) (fun g => 16 - g.i) (G1.mk 0 A n c []) ?_ ⟨rfl, (by rw [Nat.pow_zero, Nat.div_one]; rfl), trivial⟩ (sub_front ⟨_, rfl⟩) ?_
  · exact ⟨Nat.zero_le _, fun j h1 h2 => absurd h1 (by dsimp only at h2; omega), by rw [natBits_zero, List.append_nil]; exact h.here, by rw [natBits_zero, List.append_nil]; exact hn⟩
  · intro g _f hI
    obtain ⟨hi, hpre, hcel, hgn⟩ := hI
    refine s_block ?_
    refine s_seq ?_
    refine s_region ?_
    refine o_val rfl rfl rfl (y_move (v := (.slice _ _ _)) rfl) ?_
    refine o_val rfl rfl rfl (y_move (v := (.int _ _)) rfl) ?_
    refine o_fn 0 (d := 7) rfl Try.call38 (Add_c _ _ _ (bb ++ natBits v g.i) (hcel.mem (j := 0) rfl).down hgn _ 4 (nat_bd (div_le16 hv _)) (by omega) (by have h1 := hgn; simp only [List.length_append, natBits_len] at h1; omega)) rfl ?_
    rintro _ _ ⟨B2, e4, G5, rfl, ho1, rfl⟩
    refine o_val rfl rfl rfl (y_assign (v := (.slice _ _ _)) rfl) ?_
    refine o_nil ?_
    refine s_seq ?_
    refine s_region ?_
    refine o_val rfl rfl rfl (y_move (v := (.int _ _)) rfl) ?_
    refine o_val rfl rfl rfl ((y_shr rfl rfl (by omega)).int ((shr4 _).trans (congrArg (Nat.cast (R := Int)) (pow_next v g.i)))) ?_
    refine o_val rfl rfl rfl (y_assign (v := (.int _ _)) rfl) ?_
    refine o_nil ?_
    refine s_seq ?_
    refine s_region ?_
    refine o_val rfl rfl rfl (y_move (v := (.slice _ _ _)) rfl) ?_
    refine o_makeMap rfl (fun b7 => ?_)
    refine o_insert1 (v := (.int _ _)) 2 rfl Try.runUnderlying150 Try.runUnderlying4 rfl rfl rfl ?_
    refine o_val rfl rfl rfl (y_move (v := _) rfl) ?_
    refine o_val rfl rfl rfl (y_move (v := (.int _ _)) rfl) ?_
    refine o_split rfl rfl rfl (y_gtr rfl rfl) (fun p8 => ?_) (fun p9 => ?_)
    · have hne : v / 16 ^ (g.i + 1) ≠ 0 := fun hh => by rw [hh] at p8; exact absurd p8 (by decide)
      have h16 : g.i + 1 < 16 := Nat.lt_of_not_le (fun hh => hne (div16_zero hv hh))
      refine o_val rfl rfl rfl ((y_lookup1 (v := (.int _ _)) 2 rfl Try.runUnderlying150 Try.runUnderlying4 Try.zeroValue53 rfl rfl).of_eq (if_pos rfl)) ?_
      refine o_fn 0 (d := 16) rfl Try.call38 (Add_c _ _ _ (bb ++ natBits v g.i ++ bitsOf (v / 16 ^ g.i : Nat) 4) (ho1.cels (j := 0) rfl).down (by simpa using ho1.len) _ 1 (by decide) (by omega) (by have h1 := hgn; simp only [List.length_append, natBits_len] at h1; omega)) rfl ?_
      rintro _ _ ⟨B11, e13, G14, rfl, ho10, rfl⟩
      refine o_val rfl rfl rfl (y_assign (v := (.slice _ _ _)) rfl) ?_
      refine o_nil ?_
      refine s_seq ?_
      refine s_region ?_
      refine o_val rfl rfl rfl (y_move (v := (.int _ _)) rfl) ?_
      refine o_val rfl rfl rfl (y_eql rfl rfl) ?_
      refine o_nil ?_
      refine s_if rfl (fun h16 => ?_) (fun h17 => ?_)
      · exact absurd (Int.ofNat_eq_zero.1 h16) hne
      · refine s_skip ?_
        exact ⟨G1.mk (g.i + 1) B11 _ e13 G14, (by first | omega | (dsimp only; omega)), ⟨by dsimp only; omega, fun j hj1 hj2 => if e : j = g.i + 1 then by rw [e]; exact hne else hpre j hj1 (by dsimp only at hj2; omega), (os_eq ho10 (congrArg (List.map Value.bool) (nat_go' hne))).cels (j := 0) rfl, by have hs := (os_eq ho10 (congrArg (List.map Value.bool) (nat_go' hne))).len; simpa using hs⟩, ⟨rfl, (congrArg (Value.int .u64) rfl), trivial⟩, sub_picks [0] rfl⟩
    · have hz : v / 16 ^ (g.i + 1) = 0 := Nat.eq_zero_of_not_pos (fun hh => p9 (Int.natCast_pos.2 hh))
      refine o_val rfl rfl rfl ((y_lookup1 (v := (.int _ _)) 2 rfl Try.runUnderlying150 Try.runUnderlying4 Try.zeroValue53 rfl rfl).of_eq (if_neg (by decide))) ?_
      refine o_fn 0 (d := 16) rfl Try.call38 (Add_c _ _ _ (bb ++ natBits v g.i ++ bitsOf (v / 16 ^ g.i : Nat) 4) (ho1.cels (j := 0) rfl).down (by simpa using ho1.len) _ 1 (by decide) (by omega) (by have h1 := hgn; simp only [List.length_append, natBits_len] at h1; omega)) rfl ?_
      rintro _ _ ⟨B19, e21, G22, rfl, ho18, rfl⟩
      refine o_val rfl rfl rfl (y_assign (v := (.slice _ _ _)) rfl) ?_
      refine o_nil ?_
      refine s_seq ?_
      refine s_region ?_
      refine o_val rfl rfl rfl (y_move (v := (.int _ _)) rfl) ?_
      refine o_val rfl rfl rfl (y_eql rfl rfl) ?_
      refine o_nil ?_
      refine s_if rfl (fun h24 => ?_) (fun h25 => ?_)
      · refine s_seq ?_
        refine s_region ?_
        refine o_val rfl rfl rfl (y_move (v := (.slice _ _ _)) rfl) ?_
        refine o_val rfl rfl rfl (y_assign (v := (.slice _ _ _)) rfl) ?_
        refine o_nil ?_
        refine s_ret ?_
        exact ⟨_, [G22], res1 rfl rfl, ⟨_, _, _, _, rfl, os_eq ho18 (congrArg (List.map Value.bool) (nat_end' hz hpre)), rfl⟩, sub_picks [0] rfl⟩
      · exact absurd (congrArg Nat.cast hz) h25

theorem BInt_c {V : Mem} (A : Option Addr) (n c : Nat) (bb : List Bool) (h : Cels V [] A (bb.map .bool)) (hn : bb.length = n) (d : Int) (hd : inK .i64 d) (hb : n ≤ 140737488350000) : CallS Try.prog 40 [.slice A n c, .int .i64 d].toArray V [] (fun r L' => ∃ B k e G, r = .slice B k e ∧ OS B k e 4 1 ((bb ++ natB (zz d)).map .bool) G ∧ L' = [G]) := by
  have hd2 := hd
  simp only [inK] at hd2
  refine callS Try.func40 rfl rfl (fun w0 => ?_)
  refine s_seq ?_
  refine s_region ?_
  refine o_val rfl rfl rfl (y_assign (v := (.slice _ _ _)) rfl) ?_
  refine o_nil ?_
  refine s_seq ?_
  refine s_seq ?_
  refine s_region ?_
  refine o_val rfl rfl rfl (y_move (v := (.int _ _)) rfl) ?_
  refine o_val rfl rfl rfl (y_lss rfl rfl) ?_
  refine o_nil ?_
  refine s_if rfl (fun h1 => ?_) (fun h2 => ?_)
  · refine s_seq ?_
    refine s_region ?_
    refine o_val rfl rfl rfl (y_move (v := (.slice _ _ _)) rfl) ?_
    refine o_val rfl rfl rfl (y_move (v := (.int _ _)) rfl) ?_
    refine o_val rfl rfl rfl (y_add rfl rfl (by simp only [inK]; omega)) ?_
    refine o_val rfl rfl rfl (y_neg rfl (by simp only [inK]; omega)) ?_
    refine o_val rfl rfl rfl (y_conv Try.runUnderlying3 Try.runUnderlying53 rfl (by simp only [inK]; omega)) ?_
    refine o_val rfl rfl rfl (y_mul rfl rfl (by simp only [inK]; omega)) ?_
    refine o_val rfl rfl rfl ((y_add rfl rfl (by simp only [inK]; omega)).int ((by unfold zz; rw [if_neg (by omega)]; omega : _ = (zz d : Int)))) ?_
    refine o_fn 0 (d := 14) rfl Try.call39 (BNat_c _ _ _ _ h.here.down hn (zz d) (zz_lt hd) (by omega)) rfl ?_
    rintro _ _ ⟨B4, n5, e6, G7, rfl, ho3, rfl⟩
    refine o_val rfl rfl rfl (y_assign (v := (.slice _ _ _)) rfl) ?_
    refine o_nil ?_
    refine s_ret ?_
    exact ⟨_, [_], res1 rfl rfl, ⟨_, _, _, _, rfl, ho3, rfl⟩, sub_front ⟨_, rfl⟩⟩
  · refine s_skip ?_
    refine s_seq ?_
    refine s_region ?_
    refine o_val rfl rfl rfl (y_move (v := (.slice _ _ _)) rfl) ?_
    refine o_val rfl rfl rfl (y_move (v := (.int _ _)) rfl) ?_
    refine o_val rfl rfl rfl (y_conv Try.runUnderlying3 Try.runUnderlying53 rfl (by simp only [inK]; omega)) ?_
    refine o_val rfl rfl rfl ((y_mul rfl rfl (by simp only [inK]; omega)).int ((by unfold zz; rw [if_pos (by omega)]; omega : _ = (zz d : Int)))) ?_
    refine o_fn 0 (d := 19) rfl Try.call39 (BNat_c _ _ _ _ h.here.down hn (zz d) (zz_lt hd) (by omega)) rfl ?_
    rintro _ _ ⟨B10, n11, e12, G13, rfl, ho9, rfl⟩
    refine o_val rfl rfl rfl (y_assign (v := (.slice _ _ _)) rfl) ?_
    refine o_nil ?_
    refine s_ret ?_
    exact ⟨_, [_], res1 rfl rfl, ⟨_, _, _, _, rfl, ho9, rfl⟩, sub_front ⟨_, rfl⟩⟩

theorem Diff_k0 (w : World) : (Instr.buildSlice 90 0 ([] : List (Nat × Value)).toArray).run Try.prog w = .ok (.slice (some ⟨w.heap.size, 0, none⟩) 0 0) { w with heap := w.heap.push (.cells ([] : List Value).toArray 4 (0, 0)) } := by kernel_rfl
theorem Diff_c {V : Mem} (A : Option Addr) (n c : Nat) (xs : List Int) (h : Cels V [] A (xs.map (.int .i64))) (hn : xs.length = n) (hb : n ≤ 17592186044416) (B : Option Addr) (m d : Nat) (ys : List Int) (h' : Cels V [] B (ys.map (.int .i64))) (hm : ys.length = m) (hb' : m ≤ 549755813888) :
    CallS Try.prog 8 [.slice A n c, .slice B m d].toArray V [] (fun r L' => ∃ R k e bs G q, r = .tuple #[.slice R k e, .bool q] ∧ OS R k e 5 1 (bs.map (.int .u8)) G ∧ Wr bs (dAll (sumI xs) (sumI ys) xs ys) ∧ (q = true ↔ xs.length ≤ 65536 ∧ ys.length ≤ 65536 ∧ (dAll (sumI xs) (sumI ys) xs ys).length ≤ 524288) ∧ L' = [G]) := by
  refine callS Try.func8 rfl rfl (fun w0 => ?_)
  refine s_seq ?_
  refine s_region ?_
  refine o_val rfl rfl rfl (y_assign (v := (.slice _ _ _)) rfl) ?_
  refine o_val rfl rfl rfl (y_assign (v := (.bool _)) rfl) ?_
  refine o_nil ?_
  refine s_seq ?_
  refine s_region ?_
  refine o_lit (vs := []) rfl rfl (Diff_k0) (fun b1 => ?_)
  refine o_val rfl rfl rfl (y_move (v := (.slice _ _ _)) rfl) ?_
  refine o_fn 0 (d := 13) rfl Try.call19 (SumInts_c _ _ _ xs h.here.down hn (by omega)) rfl ?_
  rintro _ _ ⟨rfl, rfl⟩
  refine o_fn 0 (d := 14) rfl Try.call38 (Add_c _ _ _ [] Cels.nil rfl (sumI xs) 64 (sumI_bd _) (by omega) (by decide)) rfl ?_
  rintro _ _ ⟨B3, e5, G6, rfl, ho2, rfl⟩
  refine o_val rfl rfl rfl (y_move (v := (.slice _ _ _)) rfl) ?_
  refine o_fn 0 (d := 16) rfl Try.call19 (SumInts_c _ _ _ ys h'.here.down hm (by omega)) rfl ?_
  rintro _ _ ⟨rfl, rfl⟩
  refine o_fn 0 (d := 17) rfl Try.call38 (Add_c _ _ _ _ (ho2.cels (j := 0) rfl).down (by simpa using ho2.len) (sumI ys) 64 (sumI_bd _) (by omega) (by decide)) rfl ?_
  rintro _ _ ⟨B9, e11, G12, rfl, ho8, rfl⟩
  refine o_val rfl rfl rfl (y_move (v := (.slice _ _ _)) rfl) ?_
  refine o_val rfl rfl rfl (y_len Try.runUnderlying22 rfl) ?_
  refine o_val rfl rfl rfl (y_conv Try.runUnderlying3 Try.runUnderlying53 rfl (by simp only [inK]; omega)) ?_
  refine o_fn 0 (d := 21) rfl Try.call39 (BNat_c _ _ _ _ (ho8.cels (j := 0) rfl).down (by simpa using ho8.len) m (by omega) (by decide)) rfl ?_
  rintro _ _ ⟨B15, n16, e17, G18, rfl, ho14, rfl⟩
  refine o_val rfl rfl rfl (y_assign (v := (.slice _ _ _)) rfl) ?_
  refine o_nil ?_
  refine s_seq ?_
  refine s_region ?_
  refine o_val rfl rfl rfl (y_assign (v := (.int _ _)) rfl) ?_
  refine o_nil ?_
  refine s_seq ?_
  refine s_seq ?_
  refine s_region ?_
  refine o_val rfl rfl rfl (y_move (v := (.slice _ _ _)) rfl) ?_
  refine o_val rfl rfl rfl (y_len Try.runUnderlying22 rfl) ?_
  refine o_val rfl rfl rfl (y_move (v := (.int _ _)) rfl) ?_
  refine o_nil ?_
  refine s_block ?_
  refine s_loop (γ := G1) (fun g => [(0, .slice A n c), (1, .slice B m d), (6, .slice g.A g.n g.c), (7, .int .i64 (dRun xs ys g.i : Nat)), (22, .slice B m d), (23, .int .i64 m), (24, .int .i64 g.i)]) (fun g => [g.E]) (fun g => g.i ≤ m ∧ OS g.A g.n g.c 4 1 ((dHead (sumI xs) (sumI ys) m ++ dBits xs ys g.i).map .bool) g.E) (fun g => m - g.i) (G1.mk 0 B15 n16 e17 G18) ?_ ⟨rfl, rfl, rfl, rfl, rfl, rfl, rfl, trivial⟩ (sub_front ⟨_, rfl⟩) ?_
  · exact ⟨Nat.zero_le _, os_eq ho14 (by unfold dHead dBits; simp)⟩
  · intro g _f hI
    obtain ⟨hi, ho⟩ := hI
    refine s_seq ?_
    refine s_region ?_
    refine o_val rfl rfl rfl (y_lss rfl rfl) ?_
    refine o_nil ?_
    refine s_seq ?_
    refine s_if rfl (fun h20 => ?_) (fun h21 => ?_)
    · refine s_skip ?_
      refine s_seq ?_
      refine s_block ?_
      refine s_seq ?_
      refine s_region ?_
      refine o_val rfl rfl rfl (y_move (v := (.int _ _)) rfl) ?_
      refine o_val rfl rfl rfl (y_index1 Try.runUnderlying22 Try.sizeOf3 (some_int (i := 0) h' (by omega)) rfl rfl (by omega)) ?_
      refine o_val rfl rfl rfl (y_load Try.isAgg3 rfl (cel_int h'.here (by omega))) ?_
      refine o_val rfl rfl rfl (y_assign (v := (.int _ _)) rfl) ?_
      refine o_val rfl rfl rfl (y_assign (v := (.int _ _)) rfl) ?_
      refine o_nil ?_
      refine s_seq ?_
      refine s_region ?_
      refine o_val rfl rfl rfl (y_assign (v := (.int _ _)) rfl) ?_
      refine o_nil ?_
      refine s_seq ?_
      refine s_seq ?_
      refine s_region ?_
      refine o_val rfl rfl rfl (y_move (v := (.int _ _)) rfl) ?_
      refine o_val rfl rfl rfl (y_move (v := (.slice _ _ _)) rfl) ?_
      refine o_val rfl rfl rfl (y_len Try.runUnderlying22 rfl) ?_
      refine o_val rfl rfl rfl (y_lss rfl rfl) ?_
      refine o_nil ?_
      refine s_if rfl (fun h22 => ?_) (fun h23 => ?_)
      · have hba : xs.getD ((g.i : Nat) : Int).toNat 0 = base xs g.i := rfl
        refine s_region ?_
        refine o_val rfl rfl rfl (y_move (v := (.slice _ _ _)) rfl) ?_
        refine o_val rfl rfl rfl (y_move (v := (.int _ _)) rfl) ?_
        refine o_val rfl rfl rfl (y_index1 Try.runUnderlying22 Try.sizeOf3 (some_int (i := 0) h (by omega)) rfl rfl (by omega)) ?_
        refine o_val rfl rfl rfl (y_load Try.isAgg3 rfl (cel_int h.here (by omega))) ?_
        refine o_val rfl rfl rfl (y_assign (v := (.int _ _)) rfl) ?_
        refine o_nil ?_
        refine s_seq ?_
        refine s_seq ?_
        refine s_region ?_
        refine o_val rfl rfl rfl (y_move (v := (.int _ _)) rfl) ?_
        refine o_val rfl rfl rfl (y_move (v := (.int _ _)) rfl) ?_
        refine o_val rfl rfl rfl (y_eql rfl rfl) ?_
        refine o_nil ?_
        refine s_if rfl (fun h24 => ?_) (fun h25 => ?_)
        · have heq : ys.getD g.i 0 = base xs g.i := Eq.trans h24 hba
          refine s_seq ?_
          refine s_region ?_
          refine o_val rfl rfl rfl (y_move (v := (.int _ _)) rfl) ?_
          refine o_val rfl rfl rfl (y_add rfl rfl (by have := dRun_le xs ys g.i; simp only [inK]; omega)) ?_
          refine o_val rfl rfl rfl (y_assign (v := (.int _ _)) rfl) ?_
          refine o_nil ?_
          refine s_exit ?_
          refine s_region ?_
          refine o_val rfl rfl rfl (y_add rfl rfl (by simp only [inK]; omega)) ?_
          refine o_val rfl rfl rfl (y_move (v := (.int _ _)) rfl) ?_
          refine o_nil ?_
          exact ⟨G1.mk (g.i + 1) g.A g.n g.c g.E, (by first | omega | (dsimp only; omega)), ⟨by dsimp only; omega, os_eq ho (by dsimp only; rw [(d_same heq).2])⟩, ⟨rfl, rfl, rfl, (congrArg (Value.int _) (by dsimp only; rw [(d_same heq).1]; omega)), rfl, rfl, (congrArg (Value.int _) (by dsimp only; omega)), trivial⟩, sub_picks [0] rfl⟩
        · have heq : ¬ ys.getD g.i 0 = base xs g.i := fun hh => h25 (Eq.trans hh hba.symm)
          refine s_skip ?_
          refine s_seq ?_
          refine s_region ?_
          refine o_val rfl rfl rfl (y_move (v := (.slice _ _ _)) rfl) ?_
          refine o_val rfl rfl rfl (y_move (v := (.int _ _)) rfl) ?_
          refine o_val rfl rfl rfl (y_conv Try.runUnderlying3 Try.runUnderlying53 rfl (by have := dRun_le xs ys g.i; simp only [inK]; omega)) ?_
          refine o_fn 0 (d := 45) rfl Try.call39 (BNat_c _ _ _ _ (ho.cels (j := 0) rfl).down (by simpa using ho.len) (dRun xs ys g.i) (by have := dRun_le xs ys g.i; omega) (by have h1 := ho.len; have h2 := dBits_len xs ys g.i (by omega); have h3 := dHead_len (s1 := sumI xs) (s2 := sumI ys) (n := m) (by omega); have h4 := (natB_bd (v := dRun xs ys g.i) (by have := dRun_le xs ys g.i; omega)).2; simp only [List.length_map, List.length_append] at h1; omega)) rfl ?_
          rintro _ _ ⟨B27, n28, e29, G30, rfl, ho26, rfl⟩
          refine o_val rfl rfl rfl (y_move (v := (.int _ _)) rfl) ?_
          refine o_val rfl rfl rfl (y_move (v := (.int _ _)) rfl) ?_
          refine o_val rfl rfl rfl ((y_sub' rfl rfl).int ((show _ = dd xs ys g.i by unfold dd; rw [← hba]; rfl))) ?_
          refine o_fn 0 (d := 49) rfl Try.call40 (BInt_c _ _ _ _ (ho26.cels (j := 0) rfl).down (by simpa using ho26.len) (dd xs ys g.i) (dd_in _ _ _) (by have h1 := ho26.len; have h2 := dBits_len xs ys g.i (by omega); have h3 := dHead_len (s1 := sumI xs) (s2 := sumI ys) (n := m) (by omega); have h4 := (natB_bd (v := dRun xs ys g.i) (by have := dRun_le xs ys g.i; omega)).2; simp only [List.length_map, List.length_append] at h1; omega)) rfl ?_
          rintro _ _ ⟨B33, n34, e35, G36, rfl, ho32, rfl⟩
          refine o_val rfl rfl rfl (y_assign (v := (.slice _ _ _)) rfl) ?_
          refine o_nil ?_
          refine s_region ?_
          refine o_val rfl rfl rfl (y_assign (v := (.int _ _)) rfl) ?_
          refine o_nil ?_
          refine s_region ?_
          refine o_val rfl rfl rfl (y_add rfl rfl (by simp only [inK]; omega)) ?_
          refine o_val rfl rfl rfl (y_move (v := (.int _ _)) rfl) ?_
          refine o_nil ?_
          exact ⟨G1.mk (g.i + 1) B33 n34 e35 G36, (by first | omega | (dsimp only; omega)), ⟨by dsimp only; omega, os_eq ho32 (by dsimp only; rw [(d_other heq).2]; simp only [List.append_assoc])⟩, ⟨rfl, rfl, rfl, (congrArg (Value.int _) (by dsimp only; rw [(d_other heq).1]; rfl)), rfl, rfl, (congrArg (Value.int _) (by dsimp only; omega)), trivial⟩, sub_picks [0] rfl⟩
      · have hba : (0 : Int) = base xs g.i := by unfold base; rw [List.getD_eq_getElem?_getD, List.getElem?_eq_none (by omega)]; rfl
        refine s_skip ?_
        refine s_seq ?_
        refine s_seq ?_
        refine s_region ?_
        refine o_val rfl rfl rfl (y_move (v := (.int _ _)) rfl) ?_
        refine o_val rfl rfl rfl (y_move (v := (.int _ _)) rfl) ?_
        refine o_val rfl rfl rfl (y_eql rfl rfl) ?_
        refine o_nil ?_
        refine s_if rfl (fun h38 => ?_) (fun h39 => ?_)
        · have heq : ys.getD g.i 0 = base xs g.i := Eq.trans h38 hba
          refine s_seq ?_
          refine s_region ?_
          refine o_val rfl rfl rfl (y_move (v := (.int _ _)) rfl) ?_
          refine o_val rfl rfl rfl (y_add rfl rfl (by have := dRun_le xs ys g.i; simp only [inK]; omega)) ?_
          refine o_val rfl rfl rfl (y_assign (v := (.int _ _)) rfl) ?_
          refine o_nil ?_
          refine s_exit ?_
          refine s_region ?_
          refine o_val rfl rfl rfl (y_add rfl rfl (by simp only [inK]; omega)) ?_
          refine o_val rfl rfl rfl (y_move (v := (.int _ _)) rfl) ?_
          refine o_nil ?_
          exact ⟨G1.mk (g.i + 1) g.A g.n g.c g.E, (by first | omega | (dsimp only; omega)), ⟨by dsimp only; omega, os_eq ho (by dsimp only; rw [(d_same heq).2])⟩, ⟨rfl, rfl, rfl, (congrArg (Value.int _) (by dsimp only; rw [(d_same heq).1]; omega)), rfl, rfl, (congrArg (Value.int _) (by dsimp only; omega)), trivial⟩, sub_picks [0] rfl⟩
        · have heq : ¬ ys.getD g.i 0 = base xs g.i := fun hh => h39 (Eq.trans hh hba.symm)
          refine s_skip ?_
          refine s_seq ?_
          refine s_region ?_
          refine o_val rfl rfl rfl (y_move (v := (.slice _ _ _)) rfl) ?_
          refine o_val rfl rfl rfl (y_move (v := (.int _ _)) rfl) ?_
          refine o_val rfl rfl rfl (y_conv Try.runUnderlying3 Try.runUnderlying53 rfl (by have := dRun_le xs ys g.i; simp only [inK]; omega)) ?_
          refine o_fn 0 (d := 45) rfl Try.call39 (BNat_c _ _ _ _ (ho.cels (j := 0) rfl).down (by simpa using ho.len) (dRun xs ys g.i) (by have := dRun_le xs ys g.i; omega) (by have h1 := ho.len; have h2 := dBits_len xs ys g.i (by omega); have h3 := dHead_len (s1 := sumI xs) (s2 := sumI ys) (n := m) (by omega); have h4 := (natB_bd (v := dRun xs ys g.i) (by have := dRun_le xs ys g.i; omega)).2; simp only [List.length_map, List.length_append] at h1; omega)) rfl ?_
          rintro _ _ ⟨B41, n42, e43, G44, rfl, ho40, rfl⟩
          refine o_val rfl rfl rfl (y_move (v := (.int _ _)) rfl) ?_
          refine o_val rfl rfl rfl (y_move (v := (.int _ _)) rfl) ?_
          refine o_val rfl rfl rfl ((y_sub' rfl rfl).int ((show _ = dd xs ys g.i by unfold dd; rw [← hba]; rfl))) ?_
          refine o_fn 0 (d := 49) rfl Try.call40 (BInt_c _ _ _ _ (ho40.cels (j := 0) rfl).down (by simpa using ho40.len) (dd xs ys g.i) (dd_in _ _ _) (by have h1 := ho40.len; have h2 := dBits_len xs ys g.i (by omega); have h3 := dHead_len (s1 := sumI xs) (s2 := sumI ys) (n := m) (by omega); have h4 := (natB_bd (v := dRun xs ys g.i) (by have := dRun_le xs ys g.i; omega)).2; simp only [List.length_map, List.length_append] at h1; omega)) rfl ?_
          rintro _ _ ⟨B47, n48, e49, G50, rfl, ho46, rfl⟩
          refine o_val rfl rfl rfl (y_assign (v := (.slice _ _ _)) rfl) ?_
          refine o_nil ?_
          refine s_region ?_
          refine o_val rfl rfl rfl (y_assign (v := (.int _ _)) rfl) ?_
          refine o_nil ?_
          refine s_region ?_
          refine o_val rfl rfl rfl (y_add rfl rfl (by simp only [inK]; omega)) ?_
          refine o_val rfl rfl rfl (y_move (v := (.int _ _)) rfl) ?_
          refine o_nil ?_
          exact ⟨G1.mk (g.i + 1) B47 n48 e49 G50, (by first | omega | (dsimp only; omega)), ⟨by dsimp only; omega, os_eq ho46 (by dsimp only; rw [(d_other heq).2]; simp only [List.append_assoc])⟩, ⟨rfl, rfl, rfl, (congrArg (Value.int _) (by dsimp only; rw [(d_other heq).1]; rfl)), rfl, rfl, (congrArg (Value.int _) (by dsimp only; omega)), trivial⟩, sub_picks [0] rfl⟩
    · refine s_exit ?_
      refine s_seq ?_
      refine s_seq ?_
      refine s_region ?_
      have hin : g.i = m := by omega
      refine o_val rfl rfl rfl (y_move (v := (.int _ _)) rfl) ?_
      refine o_val rfl rfl rfl (y_gtr rfl rfl) ?_
      refine o_nil ?_
      refine s_if rfl (fun h52 => ?_) (fun h53 => ?_)
      · have hrun : 0 < dRun xs ys g.i := by omega
        have htl : dHead (sumI xs) (sumI ys) m ++ dBits xs ys g.i ++ natB (dRun xs ys g.i) = dAll (sumI xs) (sumI ys) xs ys := by unfold dAll dTail; rw [hm, hin, if_pos (hin ▸ hrun)]
        refine s_region ?_
        refine o_val rfl rfl rfl (y_move (v := (.slice _ _ _)) rfl) ?_
        refine o_val rfl rfl rfl (y_move (v := (.int _ _)) rfl) ?_
        refine o_val rfl rfl rfl (y_conv Try.runUnderlying3 Try.runUnderlying53 rfl (by have := dRun_le xs ys g.i; simp only [inK]; omega)) ?_
        refine o_fn 0 (d := 56) rfl Try.call39 (BNat_c _ _ _ _ (ho.cels (j := 0) rfl).down (by simpa using ho.len) (dRun xs ys g.i) (by have := dRun_le xs ys g.i; omega) (by have h1 := ho.len; have h2 := dBits_len xs ys g.i (by omega); have h3 := dHead_len (s1 := sumI xs) (s2 := sumI ys) (n := m) (by omega); have h4 := (natB_bd (v := dRun xs ys g.i) (by have := dRun_le xs ys g.i; omega)).2; simp only [List.length_map, List.length_append] at h1; omega)) rfl ?_
        rintro _ _ ⟨B55, n56, e57, G58, rfl, ho54, rfl⟩
        refine o_val rfl rfl rfl (y_assign (v := (.slice _ _ _)) rfl) ?_
        refine o_nil ?_
        refine s_seq ?_
        refine s_region ?_
        have hfo := os_eq ho54 (congrArg (List.map Value.bool) htl)
        clear ho54
        have hfl := hfo.len
        simp only [List.length_map, Nat.mul_one] at hfl
        have hal := dAll_len (s1 := sumI xs) (s2 := sumI ys) (old := xs) (new := ys) (by omega)
        refine o_val rfl rfl rfl (y_move (v := (.slice _ _ _)) rfl) ?_
        refine o_fn 0 (d := 58) rfl Try.call41 (RBytes_c _ _ _ _ (hfo.cels (j := 0) rfl).down (by simpa using hfo.len) (by omega)) rfl ?_
        rintro _ _ ⟨RB, rn, re, rbs, RG, rfl, hR, hRW, rfl⟩
        refine o_val rfl rfl rfl (y_move (v := (.slice _ _ _)) rfl) ?_
        refine o_val rfl rfl rfl (y_len Try.runUnderlying22 rfl) ?_
        refine o_split rfl rfl rfl (y_leq rfl rfl) (fun p60 => ?_) (fun p61 => ?_)
        · refine o_val rfl rfl rfl (y_move (v := (.bool _)) rfl) ?_
          refine o_guard_yes rfl rfl ?_
          refine o_val rfl rfl rfl (y_move (v := (.slice _ _ _)) rfl) ?_
          refine o_guard_yes rfl rfl ?_
          refine o_val rfl rfl rfl (y_len Try.runUnderlying22 rfl) ?_
          refine o_guard_yes rfl rfl ?_
          refine o_split rfl rfl rfl (y_leq rfl rfl) (fun p62 => ?_) (fun p63 => ?_)
          · refine o_val rfl rfl rfl (y_pick_t (v := (.bool _)) rfl rfl) ?_
            refine o_val rfl rfl rfl (y_move (v := (.bool _)) rfl) ?_
            refine o_guard_yes rfl rfl ?_
            refine o_val rfl rfl rfl (y_move (v := (.slice _ _ _)) rfl) ?_
            refine o_guard_yes rfl rfl ?_
            refine o_val rfl rfl rfl (y_len Try.runUnderlying90 rfl) ?_
            refine o_guard_yes rfl rfl ?_
            refine o_val rfl rfl rfl (y_leq rfl rfl) ?_
            refine o_val rfl rfl rfl (y_pick_t (v := (.bool _)) rfl rfl) ?_
            refine o_val rfl rfl rfl (y_assign (v := (.slice _ _ _)) rfl) ?_
            refine o_val rfl rfl rfl (y_assign (v := (.bool _)) rfl) ?_
            refine o_nil ?_
            refine s_ret ?_
            exact ⟨_, [RG], res2 rfl rfl rfl, ⟨_, _, _, _, _, _, rfl, hR, hRW, (by rw [decide_eq_true_iff]; omega), rfl⟩, sub_picks [0] rfl⟩
          · refine o_val rfl rfl rfl (y_pick_t (v := (.bool _)) rfl rfl) ?_
            refine o_val rfl rfl rfl (y_move (v := (.bool _)) rfl) ?_
            refine o_guard_no rfl rfl rfl rfl rfl ?_
            refine o_guard_no rfl rfl rfl rfl rfl ?_
            refine o_guard_no rfl rfl rfl rfl rfl ?_
            refine o_val rfl rfl rfl (y_pick_f (v := (.bool _)) rfl rfl) ?_
            refine o_val rfl rfl rfl (y_assign (v := (.slice _ _ _)) rfl) ?_
            refine o_val rfl rfl rfl (y_assign (v := (.bool _)) rfl) ?_
            refine o_nil ?_
            refine s_ret ?_
            exact ⟨_, [RG], res2 rfl rfl rfl, ⟨_, _, _, _, _, _, rfl, hR, hRW, (by constructor; (intro hh; cases hh); (intro hh; omega)), rfl⟩, sub_picks [0] rfl⟩
        · refine o_val rfl rfl rfl (y_move (v := (.bool _)) rfl) ?_
          refine o_guard_no rfl rfl rfl rfl rfl ?_
          refine o_guard_no rfl rfl rfl rfl rfl ?_
          refine o_guard_no rfl rfl rfl rfl rfl ?_
          refine o_val rfl rfl rfl (y_pick_f (v := (.bool _)) rfl rfl) ?_
          refine o_val rfl rfl rfl (y_move (v := (.bool _)) rfl) ?_
          refine o_guard_no rfl rfl rfl rfl rfl ?_
          refine o_guard_no rfl rfl rfl rfl rfl ?_
          refine o_guard_no rfl rfl rfl rfl rfl ?_
          refine o_val rfl rfl rfl (y_pick_f (v := (.bool _)) rfl rfl) ?_
          refine o_val rfl rfl rfl (y_assign (v := (.slice _ _ _)) rfl) ?_
          refine o_val rfl rfl rfl (y_assign (v := (.bool _)) rfl) ?_
          refine o_nil ?_
          refine s_ret ?_
          exact ⟨_, [RG], res2 rfl rfl rfl, ⟨_, _, _, _, _, _, rfl, hR, hRW, (by constructor; (intro hh; cases hh); (intro hh; omega)), rfl⟩, sub_picks [0] rfl⟩
      · have hrun : ¬ 0 < dRun xs ys g.i := by omega
        have htl : dHead (sumI xs) (sumI ys) m ++ dBits xs ys g.i = dAll (sumI xs) (sumI ys) xs ys := by unfold dAll dTail; rw [hm, hin, if_neg (hin ▸ hrun), List.append_nil]
        refine s_skip ?_
        refine s_seq ?_
        refine s_region ?_
        have hfo := os_eq ho (congrArg (List.map Value.bool) htl)
        clear ho
        have hfl := hfo.len
        simp only [List.length_map, Nat.mul_one] at hfl
        have hal := dAll_len (s1 := sumI xs) (s2 := sumI ys) (old := xs) (new := ys) (by omega)
        refine o_val rfl rfl rfl (y_move (v := (.slice _ _ _)) rfl) ?_
        refine o_fn 0 (d := 58) rfl Try.call41 (RBytes_c _ _ _ _ (hfo.cels (j := 0) rfl).down (by simpa using hfo.len) (by omega)) rfl ?_
        rintro _ _ ⟨RB, rn, re, rbs, RG, rfl, hR, hRW, rfl⟩
        refine o_val rfl rfl rfl (y_move (v := (.slice _ _ _)) rfl) ?_
        refine o_val rfl rfl rfl (y_len Try.runUnderlying22 rfl) ?_
        refine o_split rfl rfl rfl (y_leq rfl rfl) (fun p64 => ?_) (fun p65 => ?_)
        · refine o_val rfl rfl rfl (y_move (v := (.bool _)) rfl) ?_
          refine o_guard_yes rfl rfl ?_
          refine o_val rfl rfl rfl (y_move (v := (.slice _ _ _)) rfl) ?_
          refine o_guard_yes rfl rfl ?_
          refine o_val rfl rfl rfl (y_len Try.runUnderlying22 rfl) ?_
          refine o_guard_yes rfl rfl ?_
          refine o_split rfl rfl rfl (y_leq rfl rfl) (fun p66 => ?_) (fun p67 => ?_)
          · refine o_val rfl rfl rfl (y_pick_t (v := (.bool _)) rfl rfl) ?_
            refine o_val rfl rfl rfl (y_move (v := (.bool _)) rfl) ?_
            refine o_guard_yes rfl rfl ?_
            refine o_val rfl rfl rfl (y_move (v := (.slice _ _ _)) rfl) ?_
            refine o_guard_yes rfl rfl ?_
            refine o_val rfl rfl rfl (y_len Try.runUnderlying90 rfl) ?_
            refine o_guard_yes rfl rfl ?_
            refine o_val rfl rfl rfl (y_leq rfl rfl) ?_
            refine o_val rfl rfl rfl (y_pick_t (v := (.bool _)) rfl rfl) ?_
            refine o_val rfl rfl rfl (y_assign (v := (.slice _ _ _)) rfl) ?_
            refine o_val rfl rfl rfl (y_assign (v := (.bool _)) rfl) ?_
            refine o_nil ?_
            refine s_ret ?_
            exact ⟨_, [RG], res2 rfl rfl rfl, ⟨_, _, _, _, _, _, rfl, hR, hRW, (by rw [decide_eq_true_iff]; omega), rfl⟩, sub_picks [0] rfl⟩
          · refine o_val rfl rfl rfl (y_pick_t (v := (.bool _)) rfl rfl) ?_
            refine o_val rfl rfl rfl (y_move (v := (.bool _)) rfl) ?_
            refine o_guard_no rfl rfl rfl rfl rfl ?_
            refine o_guard_no rfl rfl rfl rfl rfl ?_
            refine o_guard_no rfl rfl rfl rfl rfl ?_
            refine o_val rfl rfl rfl (y_pick_f (v := (.bool _)) rfl rfl) ?_
            refine o_val rfl rfl rfl (y_assign (v := (.slice _ _ _)) rfl) ?_
            refine o_val rfl rfl rfl (y_assign (v := (.bool _)) rfl) ?_
            refine o_nil ?_
            refine s_ret ?_
            exact ⟨_, [RG], res2 rfl rfl rfl, ⟨_, _, _, _, _, _, rfl, hR, hRW, (by constructor; (intro hh; cases hh); (intro hh; omega)), rfl⟩, sub_picks [0] rfl⟩
        · refine o_val rfl rfl rfl (y_move (v := (.bool _)) rfl) ?_
          refine o_guard_no rfl rfl rfl rfl rfl ?_
          refine o_guard_no rfl rfl rfl rfl rfl ?_
          refine o_guard_no rfl rfl rfl rfl rfl ?_
          refine o_val rfl rfl rfl (y_pick_f (v := (.bool _)) rfl rfl) ?_
          refine o_val rfl rfl rfl (y_move (v := (.bool _)) rfl) ?_
          refine o_guard_no rfl rfl rfl rfl rfl ?_
          refine o_guard_no rfl rfl rfl rfl rfl ?_
          refine o_guard_no rfl rfl rfl rfl rfl ?_
          refine o_val rfl rfl rfl (y_pick_f (v := (.bool _)) rfl rfl) ?_
          refine o_val rfl rfl rfl (y_assign (v := (.slice _ _ _)) rfl) ?_
          refine o_val rfl rfl rfl (y_assign (v := (.bool _)) rfl) ?_
          refine o_nil ?_
          refine s_ret ?_
          exact ⟨_, [RG], res2 rfl rfl rfl, ⟨_, _, _, _, _, _, rfl, hR, hRW, (by constructor; (intro hh; cases hh); (intro hh; omega)), rfl⟩, sub_picks [0] rfl⟩

end Go.Proofs.Ytoigljcmpicgfaa.K
