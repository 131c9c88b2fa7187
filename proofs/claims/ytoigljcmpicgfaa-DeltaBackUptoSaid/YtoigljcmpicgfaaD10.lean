/- Walks: the law that a difference is read back, or refused. No condition beyond what each statement names. -/
import Derived.Test.YtoigljcmpicgfaaProg
import Derived.Test.YtoigljcmpicgfaaB8
import Derived.Test.YtoigljcmpicgfaaI1
import Derived.Test.YtoigljcmpicgfaaI4
import Derived.Test.YtoigljcmpicgfaaI5
import Derived.Test.YtoigljcmpicgfaaI8
import Derived.Test.YtoigljcmpicgfaaI9
import Derived.Test.YtoigljcmpicgfaaD1
import Derived.Test.YtoigljcmpicgfaaD2
import Derived.Test.YtoigljcmpicgfaaD3
import Derived.Test.YtoigljcmpicgfaaD4
import Derived.Test.YtoigljcmpicgfaaD5
import Derived.Test.YtoigljcmpicgfaaD6
import Derived.Test.YtoigljcmpicgfaaD7
import Derived.Test.YtoigljcmpicgfaaD8
set_option linter.unusedVariables false
set_option linter.unusedSimpArgs false
set_option maxRecDepth 100000
namespace Go.Proofs.Ytoigljcmpicgfaa.K
open Go.RowKit

theorem IndexE_c {V : Mem} (A : Option Addr) (n c : Nat) (xs : List Int) (h : Cels V [] A (xs.map (.int .i64))) (hn : xs.length = n) (hb : n ≤ 140737488355328) (v : Int) : CallS Try.prog 46 [.slice A n c, .int .i64 v].toArray V [] (fun r L' => ∃ k : Int, r = .int .i64 k ∧ (v ∈ xs → 0 ≤ k) ∧ L' = []) := by
  refine callS Try.func46 rfl rfl (fun w0 => ?_)
  refine s_seq ?_
  refine s_region ?_
  refine o_val rfl rfl rfl (y_assign (v := (.int _ _)) rfl) ?_
  refine o_nil ?_
  refine s_seq ?_
  refine s_seq ?_
  refine s_region ?_
  refine o_val rfl rfl rfl (y_move (v := (.slice _ _ _)) rfl) ?_
  refine o_val rfl rfl rfl (y_len Try.runUnderlying33 rfl) ?_
  refine o_val rfl rfl rfl (y_move (v := (.int _ _)) rfl) ?_
  refine o_nil ?_
  refine s_block ?_
  refine s_loop (γ := Nat) (fun g => [(0, .slice A n c), (1, .int .i64 v), (7, .int .i64 n), (8, .int .i64 g)]) (fun g => []) (fun g => g ≤ n ∧ ∀ j, j < g → xs.getD j 0 ≠ v) (fun g => n - g) (0) ?_ ⟨rfl, rfl, rfl, rfl, trivial⟩ (sub_front ⟨_, rfl⟩) ?_
  · exact ⟨Nat.zero_le _, fun j hj => absurd hj (Nat.not_lt_zero j)⟩
  · intro g _f hI
    obtain ⟨hg, hall⟩ := hI
    refine s_seq ?_
    refine s_region ?_
    refine o_val rfl rfl rfl (y_lss rfl rfl) ?_
    refine o_nil ?_
    refine s_seq ?_
    refine s_if rfl (fun h1 => ?_) (fun h2 => ?_)
    · refine s_skip ?_
      refine s_seq ?_
      refine s_block ?_
      refine s_seq ?_
      refine s_region ?_
      refine o_val rfl rfl rfl (y_move (v := (.int _ _)) rfl) ?_
      refine o_val rfl rfl rfl (y_assign (v := (.int _ _)) rfl) ?_
      refine o_nil ?_
      refine s_seq ?_
      refine s_region ?_
      refine o_val rfl rfl rfl (y_move (v := (.int _ _)) rfl) ?_
      refine o_val rfl rfl rfl (y_move (v := (.slice _ _ _)) rfl) ?_
      refine o_val rfl rfl rfl (y_move (v := (.int _ _)) rfl) ?_
      refine o_val rfl rfl rfl (y_index1 Try.runUnderlying33 Try.sizeOf27 (some_int (i := 0) h (by omega)) rfl rfl (by omega)) ?_
      refine o_val rfl rfl rfl (y_load Try.isAgg27 rfl (cel_int h.here (by omega))) ?_
      refine o_val rfl rfl rfl (y_eql rfl rfl) ?_
      refine o_nil ?_
      refine s_if rfl (fun h3 => ?_) (fun h4 => ?_)
      · refine s_seq ?_
        refine s_region ?_
        refine o_val rfl rfl rfl (y_move (v := (.int _ _)) rfl) ?_
        refine o_val rfl rfl rfl (y_assign (v := (.int _ _)) rfl) ?_
        refine o_nil ?_
        refine s_ret ?_
        exact ⟨_, _, res1 rfl rfl, ⟨_, rfl, fun _ => Int.natCast_nonneg _, rfl⟩, sub_front ⟨_, rfl⟩⟩
      · refine s_skip ?_
        refine s_region ?_
        refine o_val rfl rfl rfl (y_add rfl rfl (by simp only [inK]; omega)) ?_
        refine o_val rfl rfl rfl (y_move (v := (.int _ _)) rfl) ?_
        refine o_nil ?_
        exact ⟨g + 1, (by first | omega | (dsimp only; omega)), ⟨by omega, fun j hj => if e : j = g then by (rw [e]; exact fun hh => (by assumption : ¬ _) hh.symm) else hall j (by omega)⟩, ⟨rfl, rfl, rfl, (congrArg (Value.int _) (by omega)), trivial⟩, sub_front ⟨_, rfl⟩⟩
    · refine s_exit ?_
      refine s_seq ?_
      refine s_region ?_
      refine o_val rfl rfl rfl (y_assign (v := (.int _ _)) rfl) ?_
      refine o_nil ?_
      refine s_ret ?_
      exact ⟨_, _, res1 rfl rfl, ⟨_, rfl, fun hv => by
        obtain ⟨j, hj, hh⟩ := List.mem_iff_getElem.1 hv
        have := hall j (by omega)
        rw [List.getD_eq_getElem?_getD, List.getElem?_eq_getElem hj] at this
        exact absurd hh this, rfl⟩, sub_front ⟨_, rfl⟩⟩

theorem ContE_c {V : Mem} (A : Option Addr) (n c : Nat) (xs : List Int) (h : Cels V [] A (xs.map (.int .i64))) (hn : xs.length = n) (hb : n ≤ 140737488355328) (v : Int) (hv : v ∈ xs) : CallS Try.prog 13 [.slice A n c, .int .i64 v].toArray V [] (fun r L' => r = .bool true ∧ L' = []) := by
  refine callS Try.func13 rfl rfl (fun w0 => ?_)
  refine s_seq ?_
  refine s_region ?_
  refine o_val rfl rfl rfl (y_assign (v := (.bool _)) rfl) ?_
  refine o_nil ?_
  refine s_seq ?_
  refine s_region ?_
  refine o_val rfl rfl rfl (y_move (v := (.slice _ _ _)) rfl) ?_
  refine o_val rfl rfl rfl (y_move (v := (.int _ _)) rfl) ?_
  refine o_fn 0 (d := 7) rfl Try.call46 (IndexE_c _ _ _ xs h.here.down hn hb v) rfl ?_
  rintro _ _ ⟨k, rfl, hk, rfl⟩
  refine o_val rfl rfl rfl (y_geq rfl rfl) ?_
  refine o_val rfl rfl rfl (y_assign (v := (.bool _)) rfl) ?_
  refine o_nil ?_
  refine s_ret ?_
  exact ⟨_, _, res1 rfl rfl, ⟨congrArg Value.bool (decide_eq_true (hk hv)), rfl⟩, sub_front ⟨_, rfl⟩⟩

theorem CloneZ_k0 (w : World) : (Instr.buildSlice 23 0 ([] : List (Nat × Value)).toArray).run Try.prog w = .ok (.slice (some ⟨w.heap.size, 0, none⟩) 0 0) { w with heap := w.heap.push (.cells ([] : List Value).toArray 5 (0, 0)) } := by kernel_rfl
theorem CloneZ_c {V : Mem} (A : Option Addr) (n c : Nat) (bb : List Int) (h : Cels V [] A ((bb).map (.int .u8))) (hn : bb.length = n) (hb : n * 1 ≤ 140737488355328) : CallS Try.prog 12 [.slice A n c].toArray V []
    (fun r L' => ∃ B e G, r = .slice B n e ∧ OS B n e 5 1 ((bb).map (.int .u8)) G ∧ L' = [G]) := by
  refine callS Try.func12 rfl rfl (fun w0 => ?_)
  refine s_seq ?_
  refine s_region ?_
  refine o_val rfl rfl rfl (y_assign (v := (.slice _ _ _)) rfl) ?_
  refine o_nil ?_
  refine s_seq ?_
  refine s_seq ?_
  refine s_region ?_
  refine o_val rfl rfl rfl (y_move (v := (.slice _ _ _)) rfl) ?_
  refine o_val rfl rfl rfl (y_eql_nil Try.underlying23 rfl rfl) ?_
  refine o_nil ?_
  refine s_if rfl (fun h1 => ?_) (fun h2 => ?_)
  · subst h1
    have hbb := h.none_nil
    have hb0 : bb = [] := by simpa using hbb
    subst hb0
    obtain rfl : 0 = n := hn
    refine s_seq ?_
    refine s_region ?_
    refine o_val rfl rfl rfl (y_assign (v := (.slice _ _ _)) rfl) ?_
    refine o_nil ?_
    refine s_ret ?_
    exact ⟨_, [[]], res1 rfl rfl, ⟨_, _, [], rfl, OS.nil _ _, rfl⟩, sub_none⟩
  · refine s_skip ?_
    refine s_seq ?_
    refine s_region ?_
    refine o_lit (vs := []) rfl rfl (CloneZ_k0) (fun b3 => ?_)
    refine o_val rfl rfl rfl (y_move (v := (.slice _ _ _)) rfl) ?_
    refine o_append (sz := 1) (bytes := 1) (news := (bb).map (.int .u8)) 0 rfl Try.underlying23 Try.type5 rfl rfl rfl rfl rfl (OS.lit (sz := 1) (n := 0) rfl (by decide)) rfl rfl (Src.rd (sz := 0) Try.underlying23 h.here (by simp [hn]) (one_int _ _)) (by omega) (fun A4 c5 E6 ho7 hn8 => ?_)
    have ho9 : OS A4 n c5 5 1 ((bb).map (.int .u8)) E6 := by simpa using ho7
    clear ho7
    refine o_val rfl rfl rfl (y_assign (v := (.slice _ _ _)) rfl) ?_
    refine o_nil ?_
    refine s_ret ?_
    exact ⟨_, _, res1 rfl rfl, ⟨_, _, _, congrArg (fun k => Value.slice _ k _) (Nat.zero_add _), ho9, rfl⟩, sub_front ⟨_, rfl⟩⟩

theorem and_low (x : Int) (k m : Nat) (hm : m = 2 ^ k - 1) (hk : k ≤ 16) : 0 ≤ bAnd .i64 x (m : Nat) ∧ bAnd .i64 x (m : Nat) ≤ (m : Nat) := by
  unfold bAnd
  have hp := Nat.pow_le_pow_right (show 0 < 2 by omega) hk
  have h1 : (BitVec.ofInt IntKind.i64.bits x &&& BitVec.ofInt IntKind.i64.bits (m : Int)).toNat ≤ m := by
    rw [BitVec.toNat_and]
    refine Nat.le_trans Nat.and_le_right ?_
    rw [show IntKind.i64.bits = 64 from rfl, ofInt_toNat 64 (m : Int) (by omega) (by omega), Int.toNat_natCast]
    exact Nat.le_refl _
  rw [wrap_in (k := .i64) (by simp only [inK]; omega)]
  omega
theorem and16 (x : Int) : 0 ≤ bAnd .i64 x 65535 ∧ bAnd .i64 x 65535 ≤ 65535 := and_low x 16 65535 rfl (by omega)
theorem and7 (x : Int) : 0 ≤ bAnd .i64 x 7 ∧ bAnd .i64 x 7 ≤ 7 := and_low x 3 7 rfl (by omega)
theorem bytes_set {bs : List Int} {j : Nat} {z : Int} (h : ∀ b ∈ bs, 0 ≤ b ∧ b ≤ 255) (hz : 0 ≤ z ∧ z ≤ 255) : ∀ b ∈ bs.set j z, 0 ≤ b ∧ b ≤ 255 := by
  intro b hb
  rcases List.mem_or_eq_of_mem_set hb with hb | rfl
  · exact h b hb
  · exact hz
theorem bytes_take {bs : List Int} (hb : ∀ b ∈ bs, 0 ≤ b ∧ b ≤ 255) (n : Nat) : ∀ b ∈ bs.take n, 0 ≤ b ∧ b ≤ 255 := fun b h => hb b (List.mem_of_mem_take h)
theorem cels_pre {V : Mem} {L : List Grp} {A : Option Addr} {k : IntKind} {bs : List Int} (h : Cels V L A (bs.map (.int k))) (n : Nat) : Cels V L A ((bs.take n).map (.int k)) := by
  have := h.sub 0 (ds := (bs.take n).map (.int k)) (fun i c hi => by
    rw [List.map_take, List.getElem?_take] at hi
    split at hi
    · rwa [Nat.zero_add]
    · cases hi)
  rwa [idx_zero] at this
theorem bk_mem {er : Int} (h : er = 0 ∨ er = 14 ∨ er = 13 ∨ er = 3 ∨ er = 2) (h0 : ¬ er = 0) : er ∈ ([14, 13, 3, 2] : List Int) := by
  rcases h with h | h | h | h | h
  · exact absurd h h0
  all_goals (rw [h]; decide)
theorem bXor_byte (a b : Int) : 0 ≤ bXor .u8 a b ∧ bXor .u8 a b ≤ 255 := bXor_in .u8 a b

theorem DeltaBack_k0 (v0 : Int) (v1 : Int) (v2 : Int) (v3 : Int) (w : World) : (Instr.buildSlice 33 4 ([(0, (.int .i64 v0)), (1, (.int .i64 v1)), (2, (.int .i64 v2)), (3, (.int .i64 v3))] : List (Nat × Value)).toArray).run Try.prog w = .ok (.slice (some ⟨w.heap.size, 0, none⟩) 4 4) { w with heap := w.heap.push (.cells ([.int .i64 v0, .int .i64 v1, .int .i64 v2, .int .i64 v3] : List Value).toArray 27 (0, 0)) } := by kernel_rfl
theorem DeltaBack_c {V : Mem} (A : Option Addr) (n c : Nat) (xs : List Int) (h : Cels V [] A (xs.map (.int .i64))) (hn : xs.length = n) (hb : n ≤ 1048576) (B : Option Addr) (m d : Nat) (ys : List Int) (h' : Cels V [] B (ys.map (.int .i64))) (hm : ys.length = m) (hb' : m ≤ 1048576) (hyi : ∀ y ∈ ys, inK .i64 y) (C : Option Addr) (k e : Nat) (bs : List Int) (h3 : Cels V [] C (bs.map (.int .u8))) (hk : bs.length = k) (hbd : ∀ b ∈ bs, 0 ≤ b ∧ b ≤ 255) (hbk : k ≤ 1048576) (turn : Int) : CallS Try.prog 3 [.slice A n c, .slice B m d, .slice C k e, .int .i64 turn].toArray V [] (fun r L' => r = .bool true ∧ L' = []) := by
  refine callS Try.func3 rfl rfl (fun w0 => ?_)
  refine s_seq ?_
  refine s_region ?_
  refine o_val rfl rfl rfl (y_assign (v := (.bool _)) rfl) ?_
  refine o_nil ?_
  refine s_seq ?_
  refine s_region ?_
  refine o_val rfl rfl rfl (y_move (v := (.slice _ _ _)) rfl) ?_
  refine o_val rfl rfl rfl (y_move (v := (.slice _ _ _)) rfl) ?_
  refine o_fn 0 (d := 18) rfl Try.call8 (Diff_c _ _ _ xs h.here.down hn (by omega) _ _ _ ys h'.here.down hm (by omega)) rfl ?_
  rintro _ _ ⟨dR, dk, de, dbs, dG, q, rfl, do_, dW, dq, rfl⟩
  have hdl : dbs.length = dk := by simpa using do_.len
  refine o_val rfl rfl rfl (y_move (v := (.tuple #[(.slice _ _ _), (.bool _)])) rfl) ?_
  refine o_val rfl rfl rfl (y_extract (v := (.slice _ _ _)) rfl rfl) ?_
  refine o_val rfl rfl rfl (y_extract (v := (.bool _)) rfl rfl) ?_
  refine o_val rfl rfl rfl (y_assign (v := (.slice _ _ _)) rfl) ?_
  refine o_val rfl rfl rfl (y_assign (v := (.bool _)) rfl) ?_
  refine o_nil ?_
  refine s_seq ?_
  refine s_seq ?_
  refine s_region ?_
  refine o_splitb rfl rfl rfl (y_move (v := (.bool _)) rfl) (fun p1 => ?_) (fun p2 => ?_)
  · have hcond := dq.1 p1
    have hBG : BGood xs dbs ys := ⟨hcond.1, hcond.2.1, hyi, dW, hcond.2.2⟩
    have hdpos := dAll_pos (s1 := sumI xs) (s2 := sumI ys) (old := xs) (new := ys) (by omega)
    have hdW1 := dW.1
    refine o_val rfl rfl rfl (y_notb rfl) ?_
    refine o_val rfl rfl rfl (y_move (v := (.bool _)) rfl) ?_
    refine o_guard_yes rfl rfl ?_
    refine o_fn 0 (d := 24) rfl Try.call9 (differsL_c _) rfl ?_
    rintro _ _ ⟨rfl, rfl⟩
    refine o_guard_yes rfl rfl ?_
    refine o_val rfl rfl rfl (y_notb rfl) ?_
    refine o_val rfl rfl rfl (y_pick_f (v := (.bool _)) rfl rfl) ?_
    refine o_nil ?_
    refine s_else rfl ?_
    refine s_skip ?_
    refine s_seq ?_
    refine s_region ?_
    refine o_val rfl rfl rfl (y_move (v := (.slice _ _ _)) rfl) ?_
    refine o_val rfl rfl rfl (y_move (v := (.slice _ _ _)) rfl) ?_
    refine o_fn 0 (d := 31) rfl Try.call10 (Back_c _ _ _ xs h.here.down hn _ _ _ dbs (do_.cels (j := 0) rfl).down hdl dW.2.1 (by omega)) rfl ?_
    rintro _ _ ⟨bR, bk, be, zs, bG, ber, rfl, bo, rfl, bn⟩
    have b0 := bn.2.2.1 ys hBG
    have hzk : zs.length = bk := by simpa using bo.len
    have hzk2 : zs.length = m := by rw [b0.2]; exact hm
    refine o_val rfl rfl rfl (y_move (v := (.tuple #[(.slice _ _ _), (.int _ _)])) rfl) ?_
    refine o_val rfl rfl rfl (y_extract (v := (.slice _ _ _)) rfl rfl) ?_
    refine o_val rfl rfl rfl (y_extract (v := (.int _ _)) rfl rfl) ?_
    refine o_val rfl rfl rfl (y_assign (v := (.slice _ _ _)) rfl) ?_
    refine o_val rfl rfl rfl (y_assign (v := (.int _ _)) rfl) ?_
    refine o_nil ?_
    refine s_seq ?_
    refine s_seq ?_
    refine s_region ?_
    refine o_val rfl rfl rfl (y_move (v := (.int _ _)) rfl) ?_
    refine o_split rfl rfl rfl (y_neq rfl rfl) (fun p3 => ?_) (fun p4 => ?_)
    · exact absurd b0.1 p3
    · refine o_val rfl rfl rfl (y_move (v := (.bool _)) rfl) ?_
      refine o_guard_yes rfl rfl ?_
      refine o_val rfl rfl rfl (y_move (v := (.slice _ _ _)) rfl) ?_
      refine o_guard_yes rfl rfl ?_
      refine o_val rfl rfl rfl (y_move (v := (.slice _ _ _)) rfl) ?_
      refine o_guard_yes rfl rfl ?_
      refine o_fn 0 (d := 39) rfl Try.call11 (EqN_c _ _ _ zs (bo.cels (j := 0) rfl).down hzk _ _ _ ys h'.here.down hm (by omega)) rfl ?_
      rintro _ _ ⟨rfl, rfl⟩
      refine o_guard_yes rfl rfl ?_
      refine o_val rfl rfl rfl (y_not rfl) ?_
      refine o_val rfl rfl rfl (y_pick_f (v := (.bool _)) rfl rfl) ?_
      refine o_nil ?_
      refine s_if rfl (fun h5 => ?_) (fun h6 => ?_)
      · exact absurd b0.2 h5
      · refine s_skip ?_
        refine s_seq ?_
        refine s_seq ?_
        refine s_region ?_
        refine o_val rfl rfl rfl (y_move (v := (.slice _ _ _)) rfl) ?_
        refine o_val rfl rfl rfl (y_len Try.runUnderlying23 rfl) ?_
        refine o_val rfl rfl rfl (y_eql rfl rfl) ?_
        refine o_nil ?_
        refine s_if rfl (fun h7 => ?_) (fun h8 => ?_)
        · refine s_seq ?_
          refine s_region ?_
          refine o_val rfl rfl rfl (y_move (v := (.slice _ _ _)) rfl) ?_
          refine o_fn 0 (d := 46) rfl Try.call12 (CloneZ_c _ _ _ dbs (do_.cels (j := 1) rfl).down hdl (by omega)) rfl ?_
          rintro _ _ ⟨cR, ce, cG, rfl, co, rfl⟩
          refine o_val rfl rfl rfl (y_assign (v := (.slice _ _ _)) rfl) ?_
          refine o_nil ?_
          refine s_seq ?_
          refine s_tail 14 (by kernel_rfl) (by kernel_rfl) ?_
          refine t_val rfl rfl rfl (y_move (v := (.slice _ _ _)) rfl) ?_
          refine t_val rfl rfl rfl (y_move (v := (.int _ _)) rfl) ?_
          refine t_val rfl rfl rfl (y_and rfl rfl) ?_
          refine t_val rfl rfl rfl (y_move (v := (.slice _ _ _)) rfl) ?_
          refine t_val rfl rfl rfl (y_len Try.runUnderlying23 rfl) ?_
          refine t_val rfl rfl rfl (y_rem rfl rfl (by have ha := and16 turn; omega)) ?_
          refine t_val rfl rfl rfl (y_index1 Try.runUnderlying23 Try.sizeOf5 (co.some_of (by omega)) rfl rfl (by have ha := and16 turn; have := Int.emod_lt_of_pos (bAnd .i64 turn 65535) (show (0 : Int) < dk by omega); have := Int.emod_nonneg (bAnd .i64 turn 65535) (show (dk : Int) ≠ 0 by omega); omega)) ?_
          refine t_val rfl rfl rfl (y_load Try.isAgg5 rfl (cel_int (co.cels (j := 0) rfl) (by have ha := and16 turn; have := Int.emod_lt_of_pos (bAnd .i64 turn 65535) (show (0 : Int) < dk by omega); have := Int.emod_nonneg (bAnd .i64 turn 65535) (show (dk : Int) ≠ 0 by omega); omega))) ?_
          refine t_val rfl rfl rfl (y_move (v := (.int _ _)) rfl) ?_
          refine t_val rfl rfl rfl (y_shr rfl rfl (by omega)) ?_
          refine t_val rfl rfl rfl (y_and rfl rfl) ?_
          refine t_val rfl rfl rfl (y_shl rfl rfl ((and7 _).1)) ?_
          refine t_val rfl rfl rfl (y_xor rfl rfl) ?_
          refine t_val rfl rfl rfl (y_index1 Try.runUnderlying23 Try.sizeOf5 (co.some_of (by omega)) rfl rfl (by have ha := and16 turn; have := Int.emod_lt_of_pos (bAnd .i64 turn 65535) (show (0 : Int) < dk by omega); have := Int.emod_nonneg (bAnd .i64 turn 65535) (show (dk : Int) ≠ 0 by omega); omega)) ?_
          refine t_nil ?_
          refine o_store_os (vs := [(.int _ _)]) 0 rfl co Try.sizeOf5 rfl rfl rfl (by simp [Value.oneCell']) (by simp) (by have ha := and16 turn; have := Int.emod_lt_of_pos (bAnd .i64 turn 65535) (show (0 : Int) < dk by omega); have := Int.emod_nonneg (bAnd .i64 turn 65535) (show (dk : Int) ≠ 0 by omega); (try simp); omega) (fun E9 ho10 => ?_)
          have ho11 := os_lay_int ho10 (by have ha := and16 turn; have := Int.emod_lt_of_pos (bAnd .i64 turn 65535) (show (0 : Int) < dk by omega); have := Int.emod_nonneg (bAnd .i64 turn 65535) (show (dk : Int) ≠ 0 by omega); (try simp); omega)
          clear ho10
          refine o_nil ?_
          refine s_seq ?_
          refine s_region ?_
          refine o_val rfl rfl rfl (y_move (v := (.int _ _)) rfl) ?_
          refine o_val rfl rfl rfl (y_shr rfl rfl (by omega)) ?_
          refine o_val rfl rfl rfl (y_and rfl rfl) ?_
          refine o_val rfl rfl rfl (y_eql rfl rfl) ?_
          refine o_nil ?_
          refine s_if rfl (fun h12 => ?_) (fun h13 => ?_)
          · refine s_region ?_
            refine o_val rfl rfl rfl (y_move (v := (.slice _ _ _)) rfl) ?_
            refine o_val rfl rfl rfl (y_move (v := (.int _ _)) rfl) ?_
            refine o_val rfl rfl rfl (y_and rfl rfl) ?_
            refine o_val rfl rfl rfl (y_move (v := (.slice _ _ _)) rfl) ?_
            refine o_val rfl rfl rfl (y_len Try.runUnderlying23 rfl) ?_
            refine o_val rfl rfl rfl (y_rem rfl rfl (by have ha := and16 turn; omega)) ?_
            refine o_val rfl rfl rfl (y_cut_hi Try.runUnderlying23 Try.sizeOf5 rfl rfl (by have ha := and16 turn; have := Int.emod_lt_of_pos (bAnd .i64 turn 65535) (show (0 : Int) < dk by omega); have := Int.emod_nonneg (bAnd .i64 turn 65535) (show (dk : Int) ≠ 0 by omega); have := co.2.1; omega)) ?_
            have ha := and16 turn
            have hrem1 := Int.emod_lt_of_pos (bAnd .i64 turn 65535) (show (0 : Int) < dk by omega)
            have hrem0 := Int.emod_nonneg (bAnd .i64 turn 65535) (show (dk : Int) ≠ 0 by omega)
            refine o_val rfl rfl rfl (y_assign (v := (.slice _ _ _)) rfl) ?_
            refine o_nil ?_
            refine s_seq ?_
            refine s_region ?_
            refine o_val rfl rfl rfl (y_move (v := (.slice _ _ _)) rfl) ?_
            refine o_val rfl rfl rfl (y_move (v := (.slice _ _ _)) rfl) ?_
            refine o_fn 0 (d := 75) rfl Try.call10 (Back_c _ _ _ xs h.here.down hn _ (bAnd .i64 turn 65535 % (dk : Int)).toNat _ ((dbs.set _ _).take (bAnd .i64 turn 65535 % (dk : Int)).toNat) (cels_pre (ho11.cels (j := 0) rfl) _).down (by rw [List.length_take, List.length_set]; omega) (bytes_take (bytes_set dW.2.1 (bXor_byte _ _)) _) (by omega)) rfl ?_
            rintro _ _ ⟨b2R, b2k, b2e, zs2, b2G, er2, rfl, b2o, rfl, bn2⟩
            have hz2 : zs2.length = b2k := by simpa using b2o.len
            refine o_val rfl rfl rfl (y_move (v := (.tuple #[(.slice _ _ _), (.int _ _)])) rfl) ?_
            refine o_val rfl rfl rfl (y_extract (v := (.slice _ _ _)) rfl rfl) ?_
            refine o_val rfl rfl rfl (y_extract (v := (.int _ _)) rfl rfl) ?_
            refine o_val rfl rfl rfl (y_assign (v := (.slice _ _ _)) rfl) ?_
            refine o_val rfl rfl rfl (y_assign (v := (.int _ _)) rfl) ?_
            refine o_nil ?_
            refine s_seq ?_
            refine s_seq ?_
            refine s_region ?_
            refine o_val rfl rfl rfl (y_move (v := (.int _ _)) rfl) ?_
            refine o_val rfl rfl rfl (y_neq rfl rfl) ?_
            refine o_nil ?_
            refine s_if rfl (fun h14 => ?_) (fun h15 => ?_)
            · have he2 := h14
              refine s_seq ?_
              refine s_region ?_
              refine o_lit (vs := [(0, .int _ _), (1, .int _ _), (2, .int _ _), (3, .int _ _)]) rfl rfl (DeltaBack_k0 _ _ _ _) (fun b16 => ?_)
              refine o_val rfl rfl rfl (y_assign (v := (.slice _ _ _)) rfl) ?_
              refine o_nil ?_
              refine s_seq ?_
              refine s_seq ?_
              refine s_region ?_
              refine o_val rfl rfl rfl (y_move (v := (.slice _ _ _)) rfl) ?_
              refine o_val rfl rfl rfl (y_len Try.runUnderlying23 rfl) ?_
              refine o_split rfl rfl rfl (y_lss rfl rfl) (fun p17 => ?_) (fun p18 => ?_)
              · refine o_val rfl rfl rfl (y_move (v := (.bool _)) rfl) ?_
                refine o_guard_yes rfl rfl ?_
                refine o_val rfl rfl rfl (y_move (v := (.int _ _)) rfl) ?_
                refine o_guard_yes rfl rfl ?_
                refine o_val rfl rfl rfl (y_neq rfl rfl) ?_
                refine o_val rfl rfl rfl (y_pick_t (v := (.bool _)) rfl rfl) ?_
                refine o_nil ?_
                refine s_if rfl (fun h19 => ?_) (fun h20 => ?_)
                · exact absurd (bn2.2.2.2.2 hcond.1 (by (try simp only [List.length_take, List.length_set]); omega)) h19
                · refine s_skip ?_
                  refine s_seq ?_
                  refine s_region ?_
                  refine o_val rfl rfl rfl (y_move (v := (.slice _ _ _)) rfl) ?_
                  refine o_val rfl rfl rfl (y_move (v := (.int _ _)) rfl) ?_
                  refine o_fn 0 (d := 90) rfl Try.call13 (ContE_c _ _ _ [14, 13, 3, 2] (cels_own 4 rfl rfl).down rfl (by decide) er2 (bk_mem bn2.2.2.2.1 he2)) rfl ?_
                  rintro _ _ ⟨rfl, rfl⟩
                  refine o_val rfl rfl rfl (y_move (v := (.bool _)) rfl) ?_
                  refine o_guard_yes rfl rfl ?_
                  refine o_val rfl rfl rfl (y_move (v := (.slice _ _ _)) rfl) ?_
                  refine o_guard_yes rfl rfl ?_
                  refine o_val rfl rfl rfl (y_len Try.runUnderlying22 rfl) ?_
                  refine o_guard_yes rfl rfl ?_
                  refine o_val rfl rfl rfl (y_eql rfl rfl) ?_
                  refine o_val rfl rfl rfl (y_pick_t (v := (.bool _)) rfl rfl) ?_
                  refine o_val rfl rfl rfl (y_assign (v := (.bool _)) rfl) ?_
                  refine o_nil ?_
                  refine s_ret ?_
                  exact ⟨_, _, res1 rfl rfl, ⟨congrArg Value.bool (decide_eq_true (by have e := bn2.2.1 he2; rw [e] at hz2; simp at hz2; omega)), rfl⟩, sub_front ⟨_, rfl⟩⟩
              · refine o_val rfl rfl rfl (y_move (v := (.bool _)) rfl) ?_
                refine o_guard_no rfl rfl rfl rfl rfl ?_
                refine o_guard_no rfl rfl rfl rfl rfl ?_
                refine o_val rfl rfl rfl (y_pick_f (v := (.bool _)) rfl rfl) ?_
                refine o_nil ?_
                refine s_else rfl ?_
                refine s_skip ?_
                refine s_seq ?_
                refine s_region ?_
                refine o_val rfl rfl rfl (y_move (v := (.slice _ _ _)) rfl) ?_
                refine o_val rfl rfl rfl (y_move (v := (.int _ _)) rfl) ?_
                refine o_fn 0 (d := 90) rfl Try.call13 (ContE_c _ _ _ [14, 13, 3, 2] (cels_own 4 rfl rfl).down rfl (by decide) er2 (bk_mem bn2.2.2.2.1 he2)) rfl ?_
                rintro _ _ ⟨rfl, rfl⟩
                refine o_val rfl rfl rfl (y_move (v := (.bool _)) rfl) ?_
                refine o_guard_yes rfl rfl ?_
                refine o_val rfl rfl rfl (y_move (v := (.slice _ _ _)) rfl) ?_
                refine o_guard_yes rfl rfl ?_
                refine o_val rfl rfl rfl (y_len Try.runUnderlying22 rfl) ?_
                refine o_guard_yes rfl rfl ?_
                refine o_val rfl rfl rfl (y_eql rfl rfl) ?_
                refine o_val rfl rfl rfl (y_pick_t (v := (.bool _)) rfl rfl) ?_
                refine o_val rfl rfl rfl (y_assign (v := (.bool _)) rfl) ?_
                refine o_nil ?_
                refine s_ret ?_
                exact ⟨_, _, res1 rfl rfl, ⟨congrArg Value.bool (decide_eq_true (by have e := bn2.2.1 he2; rw [e] at hz2; simp at hz2; omega)), rfl⟩, sub_front ⟨_, rfl⟩⟩
            · have he2 := Decidable.not_not.1 h15
              have hz := bn2.1 he2
              refine s_skip ?_
              refine s_seq ?_
              refine s_region ?_
              refine o_val rfl rfl rfl (y_move (v := (.slice _ _ _)) rfl) ?_
              refine o_val rfl rfl rfl (y_move (v := (.slice _ _ _)) rfl) ?_
              refine o_fn 0 (d := 99) rfl Try.call8 (Diff_c _ _ _ xs h.here.down hn (by omega) _ _ _ zs2 (b2o.cels (j := 0) rfl).down hz2 (by omega)) rfl ?_
              rintro _ _ ⟨d2R, d2k, d2e, dbs2, d2G, q2, rfl, d2o, d2W, d2q, rfl⟩
              obtain rfl : q2 = true := d2q.2 ⟨hz.1, hz.2.1, hz.2.2.1⟩
              refine o_val rfl rfl rfl (y_move (v := (.tuple #[(.slice _ _ _), (.bool _)])) rfl) ?_
              refine o_val rfl rfl rfl (y_extract (v := (.slice _ _ _)) rfl rfl) ?_
              refine o_val rfl rfl rfl (y_extract (v := (.bool _)) rfl rfl) ?_
              refine o_val rfl rfl rfl (y_assign (v := (.slice _ _ _)) rfl) ?_
              refine o_val rfl rfl rfl (y_assign (v := (.bool _)) rfl) ?_
              refine o_nil ?_
              refine s_seq ?_
              refine s_region ?_
              refine o_splitb rfl rfl rfl (y_move (v := (.bool _)) rfl) (fun p21 => ?_) (fun p22 => ?_)
              · refine o_val rfl rfl rfl (y_move (v := (.bool _)) rfl) ?_
                refine o_guard_yes rfl rfl ?_
                refine o_val rfl rfl rfl (y_move (v := (.slice _ _ _)) rfl) ?_
                refine o_guard_yes rfl rfl ?_
                refine o_val rfl rfl rfl (y_move (v := (.slice _ _ _)) rfl) ?_
                refine o_guard_yes rfl rfl ?_
                refine o_fn 0 (d := 106) rfl Try.call14 (BEqual_c _ _ _ dbs2 (d2o.cels (j := 0) rfl).down (by simpa using d2o.len) d2W.2.1 _ (bAnd .i64 turn 65535 % (dk : Int)).toNat _ ((dbs.set _ _).take (bAnd .i64 turn 65535 % (dk : Int)).toNat) (cels_pre (ho11.cels (j := 2) rfl) _).down (by rw [List.length_take, List.length_set]; omega) (bytes_take (bytes_set dW.2.1 (bXor_byte _ _)) _)) rfl ?_
                rintro _ _ ⟨rfl, rfl⟩
                refine o_val rfl rfl rfl (y_pick_t (v := (.bool _)) rfl rfl) ?_
                refine o_val rfl rfl rfl (y_assign (v := (.bool _)) rfl) ?_
                refine o_nil ?_
                refine s_ret ?_
                exact ⟨_, _, res1 rfl rfl, ⟨congrArg Value.bool (decide_eq_true (d2W.unique hz.2.2.2)), rfl⟩, sub_front ⟨_, rfl⟩⟩
              · cases p22
          · refine s_skip ?_
            refine s_seq ?_
            refine s_region ?_
            refine o_val rfl rfl rfl (y_move (v := (.slice _ _ _)) rfl) ?_
            refine o_val rfl rfl rfl (y_move (v := (.slice _ _ _)) rfl) ?_
            refine o_fn 0 (d := 75) rfl Try.call10 (Back_c _ _ _ xs h.here.down hn _ dk _ (dbs.set _ _) (ho11.cels (j := 0) rfl).down (by rw [List.length_set]; exact hdl) (bytes_set dW.2.1 (bXor_byte _ _)) (by omega)) rfl ?_
            rintro _ _ ⟨b2R, b2k, b2e, zs2, b2G, er2, rfl, b2o, rfl, bn2⟩
            have hz2 : zs2.length = b2k := by simpa using b2o.len
            refine o_val rfl rfl rfl (y_move (v := (.tuple #[(.slice _ _ _), (.int _ _)])) rfl) ?_
            refine o_val rfl rfl rfl (y_extract (v := (.slice _ _ _)) rfl rfl) ?_
            refine o_val rfl rfl rfl (y_extract (v := (.int _ _)) rfl rfl) ?_
            refine o_val rfl rfl rfl (y_assign (v := (.slice _ _ _)) rfl) ?_
            refine o_val rfl rfl rfl (y_assign (v := (.int _ _)) rfl) ?_
            refine o_nil ?_
            refine s_seq ?_
            refine s_seq ?_
            refine s_region ?_
            refine o_val rfl rfl rfl (y_move (v := (.int _ _)) rfl) ?_
            refine o_val rfl rfl rfl (y_neq rfl rfl) ?_
            refine o_nil ?_
            refine s_if rfl (fun h23 => ?_) (fun h24 => ?_)
            · have he2 := h23
              refine s_seq ?_
              refine s_region ?_
              refine o_lit (vs := [(0, .int _ _), (1, .int _ _), (2, .int _ _), (3, .int _ _)]) rfl rfl (DeltaBack_k0 _ _ _ _) (fun b25 => ?_)
              refine o_val rfl rfl rfl (y_assign (v := (.slice _ _ _)) rfl) ?_
              refine o_nil ?_
              refine s_seq ?_
              refine s_seq ?_
              refine s_region ?_
              refine o_val rfl rfl rfl (y_move (v := (.slice _ _ _)) rfl) ?_
              refine o_val rfl rfl rfl (y_len Try.runUnderlying23 rfl) ?_
              refine o_split rfl rfl rfl (y_lss rfl rfl) (fun p26 => ?_) (fun p27 => ?_)
              · refine o_val rfl rfl rfl (y_move (v := (.bool _)) rfl) ?_
                refine o_guard_yes rfl rfl ?_
                refine o_val rfl rfl rfl (y_move (v := (.int _ _)) rfl) ?_
                refine o_guard_yes rfl rfl ?_
                refine o_val rfl rfl rfl (y_neq rfl rfl) ?_
                refine o_val rfl rfl rfl (y_pick_t (v := (.bool _)) rfl rfl) ?_
                refine o_nil ?_
                refine s_if rfl (fun h28 => ?_) (fun h29 => ?_)
                · exact absurd (bn2.2.2.2.2 hcond.1 (by (try simp only [List.length_take, List.length_set]); omega)) h28
                · refine s_skip ?_
                  refine s_seq ?_
                  refine s_region ?_
                  refine o_val rfl rfl rfl (y_move (v := (.slice _ _ _)) rfl) ?_
                  refine o_val rfl rfl rfl (y_move (v := (.int _ _)) rfl) ?_
                  refine o_fn 0 (d := 90) rfl Try.call13 (ContE_c _ _ _ [14, 13, 3, 2] (cels_own 4 rfl rfl).down rfl (by decide) er2 (bk_mem bn2.2.2.2.1 he2)) rfl ?_
                  rintro _ _ ⟨rfl, rfl⟩
                  refine o_val rfl rfl rfl (y_move (v := (.bool _)) rfl) ?_
                  refine o_guard_yes rfl rfl ?_
                  refine o_val rfl rfl rfl (y_move (v := (.slice _ _ _)) rfl) ?_
                  refine o_guard_yes rfl rfl ?_
                  refine o_val rfl rfl rfl (y_len Try.runUnderlying22 rfl) ?_
                  refine o_guard_yes rfl rfl ?_
                  refine o_val rfl rfl rfl (y_eql rfl rfl) ?_
                  refine o_val rfl rfl rfl (y_pick_t (v := (.bool _)) rfl rfl) ?_
                  refine o_val rfl rfl rfl (y_assign (v := (.bool _)) rfl) ?_
                  refine o_nil ?_
                  refine s_ret ?_
                  exact ⟨_, _, res1 rfl rfl, ⟨congrArg Value.bool (decide_eq_true (by have e := bn2.2.1 he2; rw [e] at hz2; simp at hz2; omega)), rfl⟩, sub_front ⟨_, rfl⟩⟩
              · refine o_val rfl rfl rfl (y_move (v := (.bool _)) rfl) ?_
                refine o_guard_no rfl rfl rfl rfl rfl ?_
                refine o_guard_no rfl rfl rfl rfl rfl ?_
                refine o_val rfl rfl rfl (y_pick_f (v := (.bool _)) rfl rfl) ?_
                refine o_nil ?_
                refine s_else rfl ?_
                refine s_skip ?_
                refine s_seq ?_
                refine s_region ?_
                refine o_val rfl rfl rfl (y_move (v := (.slice _ _ _)) rfl) ?_
                refine o_val rfl rfl rfl (y_move (v := (.int _ _)) rfl) ?_
                refine o_fn 0 (d := 90) rfl Try.call13 (ContE_c _ _ _ [14, 13, 3, 2] (cels_own 4 rfl rfl).down rfl (by decide) er2 (bk_mem bn2.2.2.2.1 he2)) rfl ?_
                rintro _ _ ⟨rfl, rfl⟩
                refine o_val rfl rfl rfl (y_move (v := (.bool _)) rfl) ?_
                refine o_guard_yes rfl rfl ?_
                refine o_val rfl rfl rfl (y_move (v := (.slice _ _ _)) rfl) ?_
                refine o_guard_yes rfl rfl ?_
                refine o_val rfl rfl rfl (y_len Try.runUnderlying22 rfl) ?_
                refine o_guard_yes rfl rfl ?_
                refine o_val rfl rfl rfl (y_eql rfl rfl) ?_
                refine o_val rfl rfl rfl (y_pick_t (v := (.bool _)) rfl rfl) ?_
                refine o_val rfl rfl rfl (y_assign (v := (.bool _)) rfl) ?_
                refine o_nil ?_
                refine s_ret ?_
                exact ⟨_, _, res1 rfl rfl, ⟨congrArg Value.bool (decide_eq_true (by have e := bn2.2.1 he2; rw [e] at hz2; simp at hz2; omega)), rfl⟩, sub_front ⟨_, rfl⟩⟩
            · have he2 := Decidable.not_not.1 h24
              have hz := bn2.1 he2
              refine s_skip ?_
              refine s_seq ?_
              refine s_region ?_
              refine o_val rfl rfl rfl (y_move (v := (.slice _ _ _)) rfl) ?_
              refine o_val rfl rfl rfl (y_move (v := (.slice _ _ _)) rfl) ?_
              refine o_fn 0 (d := 99) rfl Try.call8 (Diff_c _ _ _ xs h.here.down hn (by omega) _ _ _ zs2 (b2o.cels (j := 0) rfl).down hz2 (by omega)) rfl ?_
              rintro _ _ ⟨d2R, d2k, d2e, dbs2, d2G, q2, rfl, d2o, d2W, d2q, rfl⟩
              obtain rfl : q2 = true := d2q.2 ⟨hz.1, hz.2.1, hz.2.2.1⟩
              refine o_val rfl rfl rfl (y_move (v := (.tuple #[(.slice _ _ _), (.bool _)])) rfl) ?_
              refine o_val rfl rfl rfl (y_extract (v := (.slice _ _ _)) rfl rfl) ?_
              refine o_val rfl rfl rfl (y_extract (v := (.bool _)) rfl rfl) ?_
              refine o_val rfl rfl rfl (y_assign (v := (.slice _ _ _)) rfl) ?_
              refine o_val rfl rfl rfl (y_assign (v := (.bool _)) rfl) ?_
              refine o_nil ?_
              refine s_seq ?_
              refine s_region ?_
              refine o_splitb rfl rfl rfl (y_move (v := (.bool _)) rfl) (fun p30 => ?_) (fun p31 => ?_)
              · refine o_val rfl rfl rfl (y_move (v := (.bool _)) rfl) ?_
                refine o_guard_yes rfl rfl ?_
                refine o_val rfl rfl rfl (y_move (v := (.slice _ _ _)) rfl) ?_
                refine o_guard_yes rfl rfl ?_
                refine o_val rfl rfl rfl (y_move (v := (.slice _ _ _)) rfl) ?_
                refine o_guard_yes rfl rfl ?_
                refine o_fn 0 (d := 106) rfl Try.call14 (BEqual_c _ _ _ dbs2 (d2o.cels (j := 0) rfl).down (by simpa using d2o.len) d2W.2.1 _ dk _ (dbs.set _ _) (ho11.cels (j := 2) rfl).down (by rw [List.length_set]; exact hdl) (bytes_set dW.2.1 (bXor_byte _ _))) rfl ?_
                rintro _ _ ⟨rfl, rfl⟩
                refine o_val rfl rfl rfl (y_pick_t (v := (.bool _)) rfl rfl) ?_
                refine o_val rfl rfl rfl (y_assign (v := (.bool _)) rfl) ?_
                refine o_nil ?_
                refine s_ret ?_
                exact ⟨_, _, res1 rfl rfl, ⟨congrArg Value.bool (decide_eq_true (d2W.unique hz.2.2.2)), rfl⟩, sub_front ⟨_, rfl⟩⟩
              · cases p31
        · refine s_skip ?_
          refine s_seq ?_
          refine s_region ?_
          refine o_val rfl rfl rfl (y_move (v := (.slice _ _ _)) rfl) ?_
          refine o_val rfl rfl rfl (y_move (v := (.slice _ _ _)) rfl) ?_
          refine o_fn 0 (d := 75) rfl Try.call10 (Back_c _ _ _ xs h.here.down hn _ k _ bs h3.here.down hk hbd (by omega)) rfl ?_
          rintro _ _ ⟨b2R, b2k, b2e, zs2, b2G, er2, rfl, b2o, rfl, bn2⟩
          have hz2 : zs2.length = b2k := by simpa using b2o.len
          refine o_val rfl rfl rfl (y_move (v := (.tuple #[(.slice _ _ _), (.int _ _)])) rfl) ?_
          refine o_val rfl rfl rfl (y_extract (v := (.slice _ _ _)) rfl rfl) ?_
          refine o_val rfl rfl rfl (y_extract (v := (.int _ _)) rfl rfl) ?_
          refine o_val rfl rfl rfl (y_assign (v := (.slice _ _ _)) rfl) ?_
          refine o_val rfl rfl rfl (y_assign (v := (.int _ _)) rfl) ?_
          refine o_nil ?_
          refine s_seq ?_
          refine s_seq ?_
          refine s_region ?_
          refine o_val rfl rfl rfl (y_move (v := (.int _ _)) rfl) ?_
          refine o_val rfl rfl rfl (y_neq rfl rfl) ?_
          refine o_nil ?_
          refine s_if rfl (fun h32 => ?_) (fun h33 => ?_)
          · have he2 := h32
            refine s_seq ?_
            refine s_region ?_
            refine o_lit (vs := [(0, .int _ _), (1, .int _ _), (2, .int _ _), (3, .int _ _)]) rfl rfl (DeltaBack_k0 _ _ _ _) (fun b34 => ?_)
            refine o_val rfl rfl rfl (y_assign (v := (.slice _ _ _)) rfl) ?_
            refine o_nil ?_
            refine s_seq ?_
            refine s_seq ?_
            refine s_region ?_
            refine o_val rfl rfl rfl (y_move (v := (.slice _ _ _)) rfl) ?_
            refine o_val rfl rfl rfl (y_len Try.runUnderlying23 rfl) ?_
            refine o_split rfl rfl rfl (y_lss rfl rfl) (fun p35 => ?_) (fun p36 => ?_)
            · refine o_val rfl rfl rfl (y_move (v := (.bool _)) rfl) ?_
              refine o_guard_yes rfl rfl ?_
              refine o_val rfl rfl rfl (y_move (v := (.int _ _)) rfl) ?_
              refine o_guard_yes rfl rfl ?_
              refine o_val rfl rfl rfl (y_neq rfl rfl) ?_
              refine o_val rfl rfl rfl (y_pick_t (v := (.bool _)) rfl rfl) ?_
              refine o_nil ?_
              refine s_if rfl (fun h37 => ?_) (fun h38 => ?_)
              · exact absurd (bn2.2.2.2.2 hcond.1 (by (try simp only [List.length_take, List.length_set]); omega)) h37
              · refine s_skip ?_
                refine s_seq ?_
                refine s_region ?_
                refine o_val rfl rfl rfl (y_move (v := (.slice _ _ _)) rfl) ?_
                refine o_val rfl rfl rfl (y_move (v := (.int _ _)) rfl) ?_
                refine o_fn 0 (d := 90) rfl Try.call13 (ContE_c _ _ _ [14, 13, 3, 2] (cels_own 3 rfl rfl).down rfl (by decide) er2 (bk_mem bn2.2.2.2.1 he2)) rfl ?_
                rintro _ _ ⟨rfl, rfl⟩
                refine o_val rfl rfl rfl (y_move (v := (.bool _)) rfl) ?_
                refine o_guard_yes rfl rfl ?_
                refine o_val rfl rfl rfl (y_move (v := (.slice _ _ _)) rfl) ?_
                refine o_guard_yes rfl rfl ?_
                refine o_val rfl rfl rfl (y_len Try.runUnderlying22 rfl) ?_
                refine o_guard_yes rfl rfl ?_
                refine o_val rfl rfl rfl (y_eql rfl rfl) ?_
                refine o_val rfl rfl rfl (y_pick_t (v := (.bool _)) rfl rfl) ?_
                refine o_val rfl rfl rfl (y_assign (v := (.bool _)) rfl) ?_
                refine o_nil ?_
                refine s_ret ?_
                exact ⟨_, _, res1 rfl rfl, ⟨congrArg Value.bool (decide_eq_true (by have e := bn2.2.1 he2; rw [e] at hz2; simp at hz2; omega)), rfl⟩, sub_front ⟨_, rfl⟩⟩
            · refine o_val rfl rfl rfl (y_move (v := (.bool _)) rfl) ?_
              refine o_guard_no rfl rfl rfl rfl rfl ?_
              refine o_guard_no rfl rfl rfl rfl rfl ?_
              refine o_val rfl rfl rfl (y_pick_f (v := (.bool _)) rfl rfl) ?_
              refine o_nil ?_
              refine s_else rfl ?_
              refine s_skip ?_
              refine s_seq ?_
              refine s_region ?_
              refine o_val rfl rfl rfl (y_move (v := (.slice _ _ _)) rfl) ?_
              refine o_val rfl rfl rfl (y_move (v := (.int _ _)) rfl) ?_
              refine o_fn 0 (d := 90) rfl Try.call13 (ContE_c _ _ _ [14, 13, 3, 2] (cels_own 3 rfl rfl).down rfl (by decide) er2 (bk_mem bn2.2.2.2.1 he2)) rfl ?_
              rintro _ _ ⟨rfl, rfl⟩
              refine o_val rfl rfl rfl (y_move (v := (.bool _)) rfl) ?_
              refine o_guard_yes rfl rfl ?_
              refine o_val rfl rfl rfl (y_move (v := (.slice _ _ _)) rfl) ?_
              refine o_guard_yes rfl rfl ?_
              refine o_val rfl rfl rfl (y_len Try.runUnderlying22 rfl) ?_
              refine o_guard_yes rfl rfl ?_
              refine o_val rfl rfl rfl (y_eql rfl rfl) ?_
              refine o_val rfl rfl rfl (y_pick_t (v := (.bool _)) rfl rfl) ?_
              refine o_val rfl rfl rfl (y_assign (v := (.bool _)) rfl) ?_
              refine o_nil ?_
              refine s_ret ?_
              exact ⟨_, _, res1 rfl rfl, ⟨congrArg Value.bool (decide_eq_true (by have e := bn2.2.1 he2; rw [e] at hz2; simp at hz2; omega)), rfl⟩, sub_front ⟨_, rfl⟩⟩
          · have he2 := Decidable.not_not.1 h33
            have hz := bn2.1 he2
            refine s_skip ?_
            refine s_seq ?_
            refine s_region ?_
            refine o_val rfl rfl rfl (y_move (v := (.slice _ _ _)) rfl) ?_
            refine o_val rfl rfl rfl (y_move (v := (.slice _ _ _)) rfl) ?_
            refine o_fn 0 (d := 99) rfl Try.call8 (Diff_c _ _ _ xs h.here.down hn (by omega) _ _ _ zs2 (b2o.cels (j := 0) rfl).down hz2 (by omega)) rfl ?_
            rintro _ _ ⟨d2R, d2k, d2e, dbs2, d2G, q2, rfl, d2o, d2W, d2q, rfl⟩
            obtain rfl : q2 = true := d2q.2 ⟨hz.1, hz.2.1, hz.2.2.1⟩
            refine o_val rfl rfl rfl (y_move (v := (.tuple #[(.slice _ _ _), (.bool _)])) rfl) ?_
            refine o_val rfl rfl rfl (y_extract (v := (.slice _ _ _)) rfl rfl) ?_
            refine o_val rfl rfl rfl (y_extract (v := (.bool _)) rfl rfl) ?_
            refine o_val rfl rfl rfl (y_assign (v := (.slice _ _ _)) rfl) ?_
            refine o_val rfl rfl rfl (y_assign (v := (.bool _)) rfl) ?_
            refine o_nil ?_
            refine s_seq ?_
            refine s_region ?_
            refine o_splitb rfl rfl rfl (y_move (v := (.bool _)) rfl) (fun p39 => ?_) (fun p40 => ?_)
            · refine o_val rfl rfl rfl (y_move (v := (.bool _)) rfl) ?_
              refine o_guard_yes rfl rfl ?_
              refine o_val rfl rfl rfl (y_move (v := (.slice _ _ _)) rfl) ?_
              refine o_guard_yes rfl rfl ?_
              refine o_val rfl rfl rfl (y_move (v := (.slice _ _ _)) rfl) ?_
              refine o_guard_yes rfl rfl ?_
              refine o_fn 0 (d := 106) rfl Try.call14 (BEqual_c _ _ _ dbs2 (d2o.cels (j := 0) rfl).down (by simpa using d2o.len) d2W.2.1 _ k _ bs h3.here.down hk hbd) rfl ?_
              rintro _ _ ⟨rfl, rfl⟩
              refine o_val rfl rfl rfl (y_pick_t (v := (.bool _)) rfl rfl) ?_
              refine o_val rfl rfl rfl (y_assign (v := (.bool _)) rfl) ?_
              refine o_nil ?_
              refine s_ret ?_
              exact ⟨_, _, res1 rfl rfl, ⟨congrArg Value.bool (decide_eq_true (d2W.unique hz.2.2.2)), rfl⟩, sub_front ⟨_, rfl⟩⟩
            · cases p40
  · have hqf := p2
    refine o_val rfl rfl rfl (y_notb rfl) ?_
    refine o_val rfl rfl rfl (y_move (v := (.bool _)) rfl) ?_
    refine o_guard_no rfl rfl rfl rfl rfl ?_
    refine o_guard_no rfl rfl rfl rfl rfl ?_
    refine o_val rfl rfl rfl (y_pick_t (v := (.bool _)) rfl rfl) ?_
    refine o_nil ?_
    refine s_then rfl ?_
    refine s_seq ?_
    refine s_region ?_
    refine o_fn 0 (d := 27) rfl Try.call9 (differsL_c _) rfl ?_
    rintro _ _ ⟨rfl, rfl⟩
    refine o_val rfl rfl rfl (y_assign (v := (.bool _)) rfl) ?_
    refine o_nil ?_
    refine s_ret ?_
    exact ⟨_, _, res1 rfl rfl, ⟨rfl, rfl⟩, sub_front ⟨_, rfl⟩⟩

end Go.Proofs.Ytoigljcmpicgfaa.K
