/- Walks: the reference's bits, the reference's packing of frames, and the law on packing. No condition beyond what each statement names. -/
import Derived.Test.YtoigljcmpicgfaaProg
import Derived.Test.YtoigljcmpicgfaaK7
import Derived.Test.YtoigljcmpicgfaaB1
import Derived.Test.YtoigljcmpicgfaaI1
import Derived.Test.YtoigljcmpicgfaaI2
import Derived.Test.YtoigljcmpicgfaaI3
import Derived.Test.YtoigljcmpicgfaaI4
set_option linter.unusedVariables false
set_option linter.unusedSimpArgs false
set_option maxRecDepth 100000
namespace Go.Proofs.Ytoigljcmpicgfaa.K
open Go.RowKit

theorem CloneB_k0 (w : World) : (Instr.buildSlice 90 0 ([] : List (Nat × Value)).toArray).run Try.prog w = .ok (.slice (some ⟨w.heap.size, 0, none⟩) 0 0) { w with heap := w.heap.push (.cells ([] : List Value).toArray 4 (0, 0)) } := by kernel_rfl
theorem CloneB_c {V : Mem} (A : Option Addr) (n c : Nat) (bb : List Bool) (h : Cels V [] A (bb.map .bool)) (hn : bb.length = n) (hb : n ≤ 140737488355328) : CallS Try.prog 66 [.slice A n c].toArray V []
    (fun r L' => ∃ B e G, r = .slice B n e ∧ OS B n e 4 1 (bb.map .bool) G ∧ L' = [G]) := by
  refine callS Try.func66 rfl rfl (fun w0 => ?_)
  refine s_seq ?_
  refine s_region ?_
  refine o_val rfl rfl rfl (y_assign (v := (.slice _ _ _)) rfl) ?_
  refine o_nil ?_
  refine s_seq ?_
  refine s_seq ?_
  refine s_region ?_
  refine o_val rfl rfl rfl (y_move (v := (.slice _ _ _)) rfl) ?_
  refine o_val rfl rfl rfl (y_eql_nil Try.underlying90 rfl rfl) ?_
  refine o_nil ?_
  refine s_if rfl (fun h1 => ?_) (fun h2 => ?_)
  · subst h1
    have hbb := h.none_nil
    have hb0 : bb = [] := by simpa using hbb
    subst hb0
    obtain rfl : 0 = n := hn
    refine s_seq ?_
    refine s_region ?_
    refine o_val rfl rfl rfl (y_assign (v := (.slice _ _ _)) rfl) ?_
    refine o_nil ?_
    refine s_ret ?_
    exact ⟨_, _, res1 rfl rfl, ⟨_, _, [], rfl, OS.nil _ _, rfl⟩, sub_empty⟩
  · refine s_skip ?_
    refine s_seq ?_
    refine s_region ?_
    refine o_lit (vs := []) rfl rfl (CloneB_k0) (fun b3 => ?_)
    refine o_val rfl rfl rfl (y_move (v := (.slice _ _ _)) rfl) ?_
    refine o_append (sz := 1) (bytes := 1) (news := bb.map .bool) 0 rfl Try.underlying90 Try.type4 rfl rfl rfl rfl rfl (OS.lit (sz := 1) (n := 0) rfl (by decide)) rfl rfl (Src.rd (sz := 0) Try.underlying90 h.here (by simp [hn]) (one_bool _)) (by omega) (fun A4 c5 E6 ho7 hn8 => ?_)
    have ho9 : OS A4 n c5 4 1 (bb.map .bool) E6 := by simpa using ho7
    clear ho7
    refine o_val rfl rfl rfl (y_assign (v := (.slice _ _ _)) rfl) ?_
    refine o_nil ?_
    refine s_ret ?_
    exact ⟨_, _, res1 rfl rfl, ⟨_, _, _, congrArg (fun k => Value.slice _ k _) (Nat.zero_add _), ho9, rfl⟩, sub_front ⟨_, rfl⟩⟩

theorem bit_at {v : Int} (hv : 0 ≤ v ∧ v ≤ 18446744073709551615) {i : Nat} (hi : i < 64) : decide (bAnd .u64 (v.fdiv (2 ^ (min ((i : Int).toNat) 64))) 1 = 1) = v.toNat.testBit i := by
  obtain ⟨n, rfl⟩ := Int.eq_ofNat_of_zero_le hv.1
  rw [show min (i : Int).toNat 64 = i by omega]
  have h1 : (n : Int).fdiv (2 ^ i) = ((n / 2 ^ i : Nat) : Int) := by
    rw [Int.fdiv_eq_ediv_of_nonneg _ (Int.le_of_lt (Int.pow_pos (by omega)))]
    simp
  rw [h1]
  have h2 : n / 2 ^ i ≤ n := Nat.div_le_self _ _
  rw [bAnd_one rfl ⟨Int.natCast_nonneg _, Int.le_trans (Int.ofNat_le.2 h2) hv.2⟩, Int.toNat_natCast, Nat.testBit_eq_decide_div_mod_eq]
  exact decide_eq_decide.2 (by omega)
theorem map_bit (bb : List Bool) (b : Bool) : List.map Value.bool bb ++ [Value.bool b] = (bb ++ [b]).map Value.bool := by simp

theorem Add_k0 (v0 : Bool) (w : World) : (Instr.buildSlice 90 1 ([(0, (.bool v0))] : List (Nat × Value)).toArray).run Try.prog w = .ok (.slice (some ⟨w.heap.size, 0, none⟩) 1 1) { w with heap := w.heap.push (.cells ([.bool v0] : List Value).toArray 4 (0, 0)) } := by kernel_rfl
theorem Add_c {V : Mem} (A : Option Addr) (n c : Nat) (bb : List Bool) (h : Cels V [] A (bb.map .bool)) (hn : bb.length = n) (v : Int) (m : Nat) (hv : 0 ≤ v ∧ v ≤ 18446744073709551615) (hm : m ≤ 64) (hb : n + m ≤ 140737488355328) : CallS Try.prog 38 [.slice A n c, .int .u64 v, .int .i64 m].toArray V []
    (fun r L' => ∃ B e G, r = .slice B (n + m) e ∧ OS B (n + m) e 4 1 ((bb ++ bitsOf v m).map .bool) G ∧ L' = [G]) := by
  refine callS Try.func38 rfl rfl (fun w0 => ?_)
  refine s_seq ?_
  refine s_region ?_
  refine o_val rfl rfl rfl (y_assign (v := (.slice _ _ _)) rfl) ?_
  refine o_nil ?_
  refine s_seq ?_
  refine s_region ?_
  refine o_val rfl rfl rfl (y_move (v := (.slice _ _ _)) rfl) ?_
  refine o_fn 0 (d := 10) rfl Try.call66 (CloneB_c _ _ _ bb h.here.down hn (by omega)) rfl ?_
  rintro _ _ ⟨B0, e0, G0, rfl, ho0, rfl⟩
  refine o_val rfl rfl rfl (y_assign (v := (.slice _ _ _)) rfl) ?_
  refine o_nil ?_
  refine s_seq ?_
  refine s_seq ?_
  refine s_region ?_
  refine o_val rfl rfl rfl (y_move (v := (.int _ _)) rfl) ?_
  refine o_val rfl rfl rfl (y_move (v := (.int _ _)) rfl) ?_
  refine o_nil ?_
  refine s_block ?_
  refine s_loop (γ := G1) (fun g => [(1, .int .u64 v), (7, .slice g.A (n + g.i) g.c), (11, .int .i64 m), (12, .int .i64 g.i)]) (fun g => [g.E]) (fun g => g.i ≤ m ∧ OS g.A (n + g.i) g.c 4 1 ((bb ++ bitsOf v g.i).map .bool) g.E) (fun g => m - g.i) (G1.mk 0 B0 n e0 G0) ?_ ⟨rfl, rfl, rfl, rfl, trivial⟩ (sub_front ⟨_, rfl⟩) ?_
  · exact ⟨Nat.zero_le _, by rw [bitsOf_zero, List.append_nil]; exact ho0⟩
  · intro g _f hI
    obtain ⟨hi, ho⟩ := hI
    refine s_seq ?_
    refine s_region ?_
    refine o_val rfl rfl rfl (y_lss rfl rfl) ?_
    refine o_nil ?_
    refine s_seq ?_
    refine s_if rfl (fun h1 => ?_) (fun h2 => ?_)
    · refine s_skip ?_
      refine s_seq ?_
      refine s_block ?_
      refine s_seq ?_
      refine s_region ?_
      refine o_val rfl rfl rfl (y_move (v := (.int _ _)) rfl) ?_
      refine o_val rfl rfl rfl (y_assign (v := (.int _ _)) rfl) ?_
      refine o_nil ?_
      refine s_region ?_
      refine o_val rfl rfl rfl (y_move (v := (.slice _ _ _)) rfl) ?_
      refine o_val rfl rfl rfl (y_move (v := (.int _ _)) rfl) ?_
      refine o_val rfl rfl rfl (y_move (v := (.int _ _)) rfl) ?_
      refine o_val rfl rfl rfl (y_shr rfl rfl (by omega)) ?_
      refine o_val rfl rfl rfl (y_and rfl rfl) ?_
      refine o_val rfl rfl rfl (y_eql rfl rfl) ?_
      refine o_lit (vs := [(0, .bool _)]) rfl rfl (Add_k0 _) (fun b3 => ?_)
      refine o_append (sz := 1) (bytes := 1) (news := [(.bool _)]) 0 rfl Try.underlying90 Try.type4 rfl rfl rfl rfl rfl ho rfl rfl (Src.slice Try.underlying90 (cels_own 1 rfl rfl) rfl (by simp [Value.oneCell']) (by simp)) (by omega) (fun A4 c5 E6 ho7 hn8 => ?_)
      have ho9 : OS A4 (n + g.i + 1) c5 4 1 ((bb ++ bitsOf v (g.i + 1)).map .bool) E6 := by rw [bitsOf_succ, ← List.append_assoc, ← map_bit, ← bit_at hv (by omega)]; exact ho7
      clear ho7
      refine o_val rfl rfl rfl (y_assign (v := (.slice _ _ _)) rfl) ?_
      refine o_nil ?_
      refine s_region ?_
      refine o_val rfl rfl rfl (y_add rfl rfl (by simp only [inK]; omega)) ?_
      refine o_val rfl rfl rfl (y_move (v := (.int _ _)) rfl) ?_
      refine o_nil ?_
      exact ⟨G1.mk (g.i + 1) A4 0 c5 E6, (by first | omega | (dsimp only; omega)), ⟨by dsimp only; omega, ho9⟩, ⟨rfl, rfl, rfl, (congrArg (Value.int _) (by dsimp only; omega)), trivial⟩, sub_front ⟨_, rfl⟩⟩
    · refine s_exit ?_
      refine s_seq ?_
      refine s_region ?_
      refine o_val rfl rfl rfl (y_move (v := (.slice _ _ _)) rfl) ?_
      refine o_val rfl rfl rfl (y_assign (v := (.slice _ _ _)) rfl) ?_
      refine o_nil ?_
      refine s_ret ?_
      have hin : g.i = m := by omega
      rw [hin] at ho
      exact ⟨_, _, res1 rfl rfl, ⟨_, _, _, congrArg (fun k => Value.slice g.A (n + k) g.c) hin, ho, rfl⟩, sub_front ⟨_, rfl⟩⟩

/-- A bit added is a bit set, where it was not. -/
theorem Wr.addBit {bs : List Int} {bits : List Bool} (h : Wr bs bits) : ((room bs bits.length).getD (bits.length / 8) 0).toNat < 2 ^ (bits.length % 8) := by
  apply Nat.lt_of_not_le
  intro hle
  have hrl := h.roomLen
  have hb : 0 ≤ (room bs bits.length).getD (bits.length / 8) 0 ∧ (room bs bits.length).getD (bits.length / 8) 0 ≤ 255 := h.roomBd _ (getD_mem (by omega))
  obtain ⟨t, ht, hbit⟩ := Nat.exists_ge_and_testBit_of_ge_two_pow hle
  by_cases h8 : t < 8
  · rw [h.roomBit (by omega) h8, List.getD_eq_getElem?_getD, List.getElem?_eq_none (by omega)] at hbit
    cases hbit
  · rw [Nat.testBit_lt_two_pow (Nat.lt_of_lt_of_le (show _ < 2 ^ 8 by omega) (Nat.pow_le_pow_right (by omega) (by omega)))] at hbit
    cases hbit
theorem add_or {a t : Nat} (h : a < 2 ^ t) : a + 2 ^ t = a ||| 2 ^ t := by
  have := Nat.two_pow_add_eq_or_of_lt h 1
  rw [Nat.mul_one] at this
  rw [Nat.add_comm, this, Nat.or_comm]
/-- The byte with the next bit set, as the reference computes it. -/
theorem ref_set {bs : List Int} {bb : List Bool} {i : Nat} (h : Wr bs (bb.take i)) (hi : i < bb.length) (hbit : bb.getD i false = true) :
    Wr ((room bs i).set (((i : Int) / 8).toNat) (IntKind.u8.wrap ((room bs i).getD (((i : Int) / 8).toNat) 0 + IntKind.u8.wrap (1 * 2 ^ (min (((i : Int) % 8).toNat) 8))))) (bb.take (i + 1)) := by
  have hl : (bb.take i).length = i := by simp; omega
  have e1 : ((i : Int) / 8).toNat = i / 8 := by omega
  have e2 : ((i : Int) % 8).toNat = i % 8 := by omega
  have hs := h.step true (x := _) rfl
  have ha := h.addBit
  have hrl := h.roomLen
  have hb : 0 ≤ (room bs (bb.take i).length).getD ((bb.take i).length / 8) 0 ∧ (room bs (bb.take i).length).getD ((bb.take i).length / 8) 0 ≤ 255 := h.roomBd _ (getD_mem (by omega))
  rw [hl] at hs ha hb
  have hp := pow_le_255 (show i % 8 < 8 by omega)
  have e4 : bb.take (i + 1) = bb.take i ++ [true] := by
    rw [List.take_add_one]
    congr 1
    rw [List.getD_eq_getElem?_getD] at hbit
    rw [List.getElem?_eq_getElem hi] at hbit ⊢
    simp at hbit
    simp [hbit]
  rw [e1, e2, e4]
  refine cast ?_ hs
  congr 2
  rw [if_pos rfl, bOr_u8 hb ⟨by omega, by omega⟩]
  generalize (room bs i).getD (i / 8) 0 = z at *
  have hor := add_or ha
  have hlt : z.toNat ||| 2 ^ (i % 8) < 2 ^ 8 := Nat.or_lt_two_pow (by omega) (by omega)
  rw [show min (i % 8) 8 = i % 8 by omega, Int.toNat_natCast, ← hor]
  rw [← hor] at hlt
  have e5 : (1 : Int) * 2 ^ (i % 8) = ((2 ^ (i % 8) : Nat) : Int) := by simp
  rw [e5, wrap_in (k := .u8) (n := ((2 ^ (i % 8) : Nat) : Int)) (by simp only [inK]; omega), wrap_in (k := .u8) (by simp only [inK]; omega)]
  omega
theorem ref_clear {bs : List Int} {bb : List Bool} {i : Nat} (h : Wr bs (bb.take i)) (hi : i < bb.length) (hbit : bb.getD i false = false) : Wr (room bs i) (bb.take (i + 1)) := by
  have hl : (bb.take i).length = i := by simp; omega
  have hs := h.step false (x := _) rfl
  have hrl := h.roomLen
  have hb : 0 ≤ (room bs (bb.take i).length).getD ((bb.take i).length / 8) 0 ∧ (room bs (bb.take i).length).getD ((bb.take i).length / 8) 0 ≤ 255 := h.roomBd _ (getD_mem (by omega))
  rw [hl] at hs hb hrl
  have e4 : bb.take (i + 1) = bb.take i ++ [false] := by
    rw [List.take_add_one]
    congr 1
    rw [List.getD_eq_getElem?_getD] at hbit
    rw [List.getElem?_eq_getElem hi] at hbit ⊢
    simp at hbit
    simp [hbit]
  rw [e4]
  refine cast ?_ hs
  congr 1
  rw [if_neg (by simp), bOr_u8 hb ⟨by omega, by omega⟩]
  simp only [Int.toNat_zero, Nat.or_zero]
  rw [Int.toNat_of_nonneg hb.1, List.getD_eq_getElem?_getD]
  rw [List.getElem?_eq_getElem (show i / 8 < (room bs i).length by omega)]
  simp

theorem RBytes_k0 (v0 : Int) (w : World) : (Instr.buildSlice 23 1 ([(0, (.int .u8 v0))] : List (Nat × Value)).toArray).run Try.prog w = .ok (.slice (some ⟨w.heap.size, 0, none⟩) 1 1) { w with heap := w.heap.push (.cells ([.int .u8 v0] : List Value).toArray 5 (0, 0)) } := by kernel_rfl
theorem RBytes_c {V : Mem} (A : Option Addr) (n c : Nat) (bb : List Bool) (h : Cels V [] A (bb.map .bool)) (hn : bb.length = n) (hb : n ≤ 140737488355328) : CallS Try.prog 41 [.slice A n c].toArray V []
    (fun r L' => ∃ B m e bs G, r = .slice B m e ∧ OS B m e 5 1 (bs.map (.int .u8)) G ∧ Wr bs bb ∧ L' = [G]) := by
  refine callS Try.func41 rfl rfl (fun w0 => ?_)
  refine s_seq ?_
  refine s_region ?_
  refine o_val rfl rfl rfl (y_assign (v := (.slice _ _ _)) rfl) ?_
  refine o_nil ?_
  refine s_seq ?_
  refine s_region ?_
  refine o_val rfl rfl rfl (y_assign (v := (.slice _ _ _)) rfl) ?_
  refine o_nil ?_
  refine s_seq ?_
  refine s_seq ?_
  refine s_region ?_
  refine o_val rfl rfl rfl (y_move (v := (.slice _ _ _)) rfl) ?_
  refine o_val rfl rfl rfl (y_len Try.runUnderlying90 rfl) ?_
  refine o_val rfl rfl rfl (y_move (v := (.int _ _)) rfl) ?_
  refine o_nil ?_
  refine s_block ?_
  refine s_group ?_
  refine s_loop (γ := G1 × List Int) (fun g => [(3, .slice g.1.A g.1.n g.1.c), (6, .slice A n c), (7, .int .i64 n), (8, .int .i64 g.1.i)]) (fun g => [g.1.E]) (fun g => g.1.i ≤ n ∧ OS g.1.A g.1.n g.1.c 5 1 (g.2.map (.int .u8)) g.1.E ∧ Wr g.2 (bb.take g.1.i)) (fun g => n - g.1.i) ((G1.mk 0 none 0 0 [], [])) ?_ ⟨rfl, rfl, rfl, rfl, trivial⟩ (sub_front ⟨_, rfl⟩) ?_
  · exact ⟨Nat.zero_le _, OS.nil _ _, Wr.nil⟩
  · intro g _f hI
    obtain ⟨hi, ho, hW⟩ := hI
    have htl : (bb.take g.1.i).length = g.1.i := by simp; omega
    have hrl := hW.roomLen
    rw [htl] at hrl
    have hw1 := hW.1
    rw [htl] at hw1
    have hol := ho.len
    simp only [List.length_map] at hol
    refine s_seq ?_
    refine s_region ?_
    refine o_val rfl rfl rfl (y_lss rfl rfl) ?_
    refine o_nil ?_
    refine s_seq ?_
    refine s_if rfl (fun h1 => ?_) (fun h2 => ?_)
    · refine s_skip ?_
      refine s_seq ?_
      refine s_block ?_
      refine s_seq ?_
      refine s_region ?_
      refine o_val rfl rfl rfl (y_move (v := (.int _ _)) rfl) ?_
      refine o_val rfl rfl rfl (y_index1 Try.runUnderlying90 Try.sizeOf4 (some_bool (i := 0) h (by omega)) rfl rfl (by omega)) ?_
      refine o_val rfl rfl rfl (y_load Try.isAgg4 rfl (cel_bool h.here (by omega))) ?_
      refine o_val rfl rfl rfl (y_assign (v := (.int _ _)) rfl) ?_
      refine o_val rfl rfl rfl (y_assign (v := (.bool _)) rfl) ?_
      refine o_nil ?_
      refine s_join (γ := G1) (fun q => [(3, .slice q.A q.n q.c), (4, .int .i64 g.1.i), (5, .bool (bb.getD g.1.i false)), (6, .slice A n c), (7, .int .i64 n), (8, .int .i64 g.1.i)]) (fun q => [q.E]) (fun q => OS q.A q.n q.c 5 1 ((room g.2 g.1.i).map (.int .u8)) q.E) ?_ ?_
      · refine s_seq ?_
        refine s_region ?_
        refine o_val rfl rfl rfl (y_move (v := (.int _ _)) rfl) ?_
        refine o_val rfl rfl rfl (y_rem rfl rfl (by omega)) ?_
        refine o_val rfl rfl rfl (y_eql rfl rfl) ?_
        refine o_nil ?_
        refine s_if rfl (fun h3 => ?_) (fun h4 => ?_)
        · refine s_region ?_
          refine o_val rfl rfl rfl (y_move (v := (.slice _ _ _)) rfl) ?_
          refine o_lit (vs := [(0, .int _ _)]) rfl rfl (RBytes_k0 _) (fun b5 => ?_)
          refine o_append (sz := 1) (bytes := 1) (news := [(.int _ _)]) 0 rfl Try.underlying23 Try.type5 rfl rfl rfl rfl rfl ho rfl rfl (Src.slice Try.underlying23 (cels_own 1 rfl rfl) rfl (by simp [Value.oneCell']) (by simp)) (by omega) (fun A6 c7 E8 ho9 hn10 => ?_)
          have ho11 : OS A6 (g.1.n + 1) c7 5 1 ((room g.2 g.1.i).map (.int .u8)) E8 := by rw [room_yes (by omega), ← map_one]; exact ho9
          clear ho9
          refine o_val rfl rfl rfl (y_assign (v := (.slice _ _ _)) rfl) ?_
          refine o_nil ?_
          exact ⟨(G1.mk 0 A6 (g.1.n + 1) c7 E8), ho11, ⟨rfl, rfl, rfl, rfl, rfl, rfl, trivial⟩, sub_front ⟨_, rfl⟩⟩
        · refine s_skip ?_
          exact ⟨(G1.mk 0 g.1.A g.1.n g.1.c g.1.E), (by rw [room_no (by omega)]; exact ho), ⟨rfl, rfl, rfl, rfl, rfl, rfl, trivial⟩, sub_front ⟨_, rfl⟩⟩
      · intro q _f hoq
        have hqn := hoq.len
        simp only [List.length_map, hrl] at hqn
        refine s_seq ?_
        refine s_region ?_
        refine o_val rfl rfl rfl (y_move (v := (.bool _)) rfl) ?_
        refine o_nil ?_
        refine s_ifb rfl (fun h12 => ?_) (fun h13 => ?_)
        · have hbit := h12
          refine s_tail 10 (by kernel_rfl) (by kernel_rfl) ?_
          refine t_val rfl rfl rfl (y_move (v := (.slice _ _ _)) rfl) ?_
          refine t_val rfl rfl rfl (y_move (v := (.int _ _)) rfl) ?_
          refine t_val rfl rfl rfl (y_quo rfl rfl (by simp only [inK]; omega)) ?_
          refine t_val rfl rfl rfl (y_index1 Try.runUnderlying23 Try.sizeOf5 (hoq.some_of (by omega)) rfl rfl (by omega)) ?_
          refine t_val rfl rfl rfl (y_load Try.isAgg5 rfl (cel_int (hoq.cels (j := 0) rfl) (by rw [hrl]; omega))) ?_
          refine t_val rfl rfl rfl (y_move (v := (.int _ _)) rfl) ?_
          refine t_val rfl rfl rfl (y_rem rfl rfl (by omega)) ?_
          refine t_val rfl rfl rfl (y_shl rfl rfl (by omega)) ?_
          refine t_val rfl rfl rfl (y_add' rfl rfl) ?_
          refine t_val rfl rfl rfl (y_index1 Try.runUnderlying23 Try.sizeOf5 (hoq.some_of (by omega)) rfl rfl (by omega)) ?_
          refine t_nil ?_
          refine o_store_os (vs := [(.int _ _)]) 0 rfl hoq Try.sizeOf5 rfl rfl rfl (by simp [Value.oneCell']) (by simp) (by simp [hrl] <;> omega) (fun E14 ho15 => ?_)
          have ho16 := os_lay_int ho15 (by simp [hrl] <;> omega)
          clear ho15
          refine o_nil ?_
          refine s_region ?_
          refine o_val rfl rfl rfl (y_add rfl rfl (by simp only [inK]; omega)) ?_
          refine o_val rfl rfl rfl (y_move (v := (.int _ _)) rfl) ?_
          refine o_nil ?_
          exact ⟨(G1.mk (g.1.i + 1) q.A q.n q.c E14, _), (by first | omega | (dsimp only; omega)), ⟨by dsimp only; omega, ho16, ref_set hW (by omega) hbit⟩, ⟨rfl, rfl, rfl, (congrArg (Value.int _) (by dsimp only; omega)), trivial⟩, sub_front ⟨_, rfl⟩⟩
        · have hbit := h13
          refine s_skip ?_
          refine s_region ?_
          refine o_val rfl rfl rfl (y_add rfl rfl (by simp only [inK]; omega)) ?_
          refine o_val rfl rfl rfl (y_move (v := (.int _ _)) rfl) ?_
          refine o_nil ?_
          exact ⟨(G1.mk (g.1.i + 1) q.A q.n q.c q.E, _), (by first | omega | (dsimp only; omega)), ⟨by dsimp only; omega, hoq, ref_clear hW (by omega) hbit⟩, ⟨rfl, rfl, rfl, (congrArg (Value.int _) (by dsimp only; omega)), trivial⟩, sub_front ⟨_, rfl⟩⟩
    · refine s_exit ?_
      refine s_seq ?_
      refine s_region ?_
      refine o_val rfl rfl rfl (y_move (v := (.slice _ _ _)) rfl) ?_
      refine o_val rfl rfl rfl (y_assign (v := (.slice _ _ _)) rfl) ?_
      refine o_nil ?_
      refine s_ret ?_
      have hin : g.1.i = n := by omega
      rw [hin, ← hn, List.take_length] at hW
      exact ⟨_, _, res1 rfl rfl, ⟨_, _, _, _, _, rfl, ho, hW, rfl⟩, sub_front ⟨_, rfl⟩⟩

end Go.Proofs.Ytoigljcmpicgfaa.K
