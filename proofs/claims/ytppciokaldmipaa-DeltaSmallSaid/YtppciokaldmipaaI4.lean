/- Walks: bytes compared, the fact that an input is packed into two bytes, and the law on the faults of inputs. No condition beyond what each statement names. -/
import Derived.Test.YtppciokaldmipaaProg
import Derived.Test.YtppciokaldmipaaK5
import Derived.Test.YtppciokaldmipaaB1
import Derived.Test.YtppciokaldmipaaI1
import Derived.Test.YtppciokaldmipaaI2
import Derived.Test.YtppciokaldmipaaI3
set_option linter.unusedVariables false
set_option linter.unusedSimpArgs false
set_option maxRecDepth 100000
namespace Go.Proofs.Ytppciokaldmipaa.K
open Go.RowKit

theorem BEqual_c {V : Mem} (A : Option Addr) (n c : Nat) (bs : List Int) (h : Cels V [] A (bs.map (.int .u8))) (hn : bs.length = n) (hb : ∀ b ∈ bs, 0 ≤ b ∧ b ≤ 255) (B : Option Addr) (m d : Nat) (cs : List Int) (h' : Cels V [] B (cs.map (.int .u8))) (hm : cs.length = m) (hc : ∀ b ∈ cs, 0 ≤ b ∧ b ≤ 255) :
    CallS Try.prog 21 [.slice A n c, .slice B m d].toArray V [] (fun r L' => r = .bool (decide (bs = cs)) ∧ L' = []) := by
  refine callS Try.func21 rfl rfl (fun w0 => ?_)
  refine s_seq ?_
  refine s_region ?_
  refine o_val rfl rfl rfl (y_assign (v := (.bool _)) rfl) ?_
  refine o_nil ?_
  refine s_seq ?_
  refine s_region ?_
  refine o_val rfl rfl rfl (y_move (v := (.slice _ _ _)) rfl) ?_
  refine o_val rfl rfl rfl (y_bytes_str Try.underlying30 Try.underlying5 Try.underlying9 rfl (h.here) (hn)) ?_
  refine o_val rfl rfl rfl (y_move (v := (.slice _ _ _)) rfl) ?_
  refine o_val rfl rfl rfl (y_bytes_str Try.underlying30 Try.underlying5 Try.underlying9 rfl (h'.here) (hm)) ?_
  refine o_val rfl rfl rfl (y_eql_str rfl rfl) ?_
  refine o_val rfl rfl rfl (y_assign (v := (.bool _)) rfl) ?_
  refine o_nil ?_
  refine s_ret ?_
  exact ⟨_, _, res1 rfl rfl, ⟨congrArg Value.bool (by rw [decide_eq_decide]; exact mkB_inj hb hc), rfl⟩, sub_front ⟨_, rfl⟩⟩

theorem Pack_ok {V : Mem} (A : Option Addr) (c : Nat) (l : List Inp) (h : Cels V [] A (l.flatMap encI)) (hb : l.length ≤ 140737488355328) (B : Option Addr) (d : Nat) (l' : List Inp) (h' : Cels V [] B (l'.flatMap encI)) (hb' : l'.length ≤ 140737488355328) (hf : okFr l.length l) (hf' : okFr l.length l') :
    CallS Try.prog 20 [.slice A l.length c, .slice B l'.length d].toArray V [] (fun r L' => ∃ R n e bs G, r = .tuple #[.slice R n e, .int .i64 0] ∧ OS R n e 5 1 (bs.map (.int .u8)) G ∧ Wr bs (packTo l l' l'.length) ∧ L' = [G]) :=
  (Pack_c A c l h hb B d l' h' hb').mono fun v L' hh => hh.elim (fun hx => absurd ⟨hf, hf'⟩ hx.1) (fun hx => hx.2.2)
theorem packed_bits : Wr [3, 0] (packTo [⟨0, 0, 0⟩] [⟨1, 0, 0⟩] 1) := by
  have e : packTo [⟨0, 0, 0⟩] [⟨1, 0, 0⟩] 1 = [true, true, false, false, false, false, false, false, false, false] := by decide
  rw [e]
  refine ⟨by decide, by decide, ?_⟩
  have : ∀ j, j < 2 → ∀ t, t < 8 → (([3, 0] : List Int).getD j 0).toNat.testBit t = [true, true, false, false, false, false, false, false, false, false].getD (8 * j + t) false := by decide
  exact fun j t hj ht => this j hj t ht

theorem packed_k0 (w : World) : (Instr.build 24 ([] : List (Nat × Value)).toArray).run Try.prog w = .ok (.agg #[.int .i64 0, .int .i64 0, .int .i64 0]) w := by kernel_rfl
theorem packed_k1 (v0x0 : Int) (v0x1 : Int) (v0x2 : Int) (w : World) : (Instr.buildSlice 22 1 ([(0, (.agg #[(.int .i64 v0x0), (.int .i64 v0x1), (.int .i64 v0x2)]))] : List (Nat × Value)).toArray).run Try.prog w = .ok (.slice (some ⟨w.heap.size, 0, none⟩) 1 1) { w with heap := w.heap.push (.cells ([.int .i64 v0x0, .int .i64 v0x1, .int .i64 v0x2] : List Value).toArray 24 (0, 0)) } := by kernel_rfl
theorem packed_k2 (v0 : Int) (w : World) : (Instr.build 24 ([(0, (.int .i64 v0))] : List (Nat × Value)).toArray).run Try.prog w = .ok (.agg #[.int .i64 v0, .int .i64 0, .int .i64 0]) w := by kernel_rfl
theorem packed_k3 (v0 : Int) (v1 : Int) (w : World) : (Instr.buildSlice 30 2 ([(0, (.int .u8 v0)), (1, (.int .u8 v1))] : List (Nat × Value)).toArray).run Try.prog w = .ok (.slice (some ⟨w.heap.size, 0, none⟩) 2 2) { w with heap := w.heap.push (.cells ([.int .u8 v0, .int .u8 v1] : List Value).toArray 5 (0, 0)) } := by kernel_rfl
theorem packed_c (V : Mem) : CallS Try.prog 17 ([] : List Value).toArray V [] (fun r L' => r = .bool true ∧ L' = []) := by
  refine callS Try.func17 rfl rfl (fun w0 => ?_)
  refine s_seq ?_
  refine s_region ?_
  refine o_val rfl rfl rfl (y_assign (v := (.bool _)) rfl) ?_
  refine o_nil ?_
  refine s_seq ?_
  refine s_region ?_
  refine o_val rfl rfl rfl (y_build (vs := []) rfl (packed_k0)) ?_
  refine o_lit (vs := [(0, .agg #[.int _ _, .int _ _, .int _ _])]) rfl rfl (packed_k1 _ _ _) (fun b1 => ?_)
  refine o_val rfl rfl rfl (y_build (vs := [(0, .int _ _)]) rfl (packed_k2 _)) ?_
  refine o_lit (vs := [(0, .agg #[.int _ _, .int _ _, .int _ _])]) rfl rfl (packed_k1 _ _ _) (fun b2 => ?_)
  refine o_fn 0 (d := 8) rfl Try.call20 (Pack_ok _ _ [⟨0, 0, 0⟩] (cels_own 0 rfl rfl).down (by decide) _ _ [⟨1, 0, 0⟩] (cels_own 1 rfl rfl).down (by decide) (by decide) (by decide)) rfl ?_
  rintro _ _ ⟨R, n, e, bs, G, rfl, hos, hW, rfl⟩
  refine o_val rfl rfl rfl (y_move (v := (.tuple #[(.slice _ _ _), (.int _ _)])) rfl) ?_
  refine o_val rfl rfl rfl (y_extract (v := (.slice _ _ _)) rfl rfl) ?_
  refine o_val rfl rfl rfl (y_extract (v := (.int _ _)) rfl rfl) ?_
  refine o_val rfl rfl rfl (y_assign (v := (.slice _ _ _)) rfl) ?_
  refine o_val rfl rfl rfl (y_assign (v := (.int _ _)) rfl) ?_
  refine o_nil ?_
  refine s_seq ?_
  refine s_region ?_
  refine o_val rfl rfl rfl (y_move (v := (.int _ _)) rfl) ?_
  refine o_split rfl rfl rfl (y_eql rfl rfl) (fun p3 => ?_) (fun p4 => ?_)
  · refine o_val rfl rfl rfl (y_move (v := (.bool _)) rfl) ?_
    refine o_guard_yes rfl rfl ?_
    refine o_val rfl rfl rfl (y_move (v := (.slice _ _ _)) rfl) ?_
    refine o_guard_yes rfl rfl ?_
    refine o_lit (vs := [(0, .int _ _), (1, .int _ _)]) rfl rfl (packed_k3 _ _) (fun b5 => ?_)
    refine o_guard_yes rfl rfl ?_
    refine o_fn 0 (d := 16) rfl Try.call21 (BEqual_c _ _ _ bs (hos.cels (j := 0) rfl).down (by simpa using hos.len) hW.2.1 _ _ _ [3, 0] (cels_own 3 rfl rfl).down rfl (by decide)) rfl ?_
    rintro _ _ ⟨rfl, rfl⟩
    refine o_val rfl rfl rfl (y_pick_t (v := (.bool _)) rfl rfl) ?_
    refine o_val rfl rfl rfl (y_assign (v := (.bool _)) rfl) ?_
    refine o_nil ?_
    refine s_ret ?_
    exact ⟨_, _, res1 rfl rfl, ⟨congrArg Value.bool (decide_eq_true (hW.unique packed_bits)), rfl⟩, sub_front ⟨_, rfl⟩⟩
  · exact absurd rfl p4

theorem InputFaults_c {V : Mem} (pl : Int) (A : Option Addr) (c : Nat) (l : List Inp) (h : Cels V [] A (l.flatMap encI)) (hb : l.length ≤ 140737488355328) (hw : ∀ i ∈ l, i.fit) : CallS Try.prog 3 [.int .i64 pl, .slice A l.length c].toArray V [] (fun r L' => r = .bool true ∧ L' = []) := by
  refine callS Try.func3 rfl rfl (fun w0 => ?_)
  refine s_seq ?_
  refine s_region ?_
  refine o_val rfl rfl rfl (y_assign (v := (.bool _)) rfl) ?_
  refine o_nil ?_
  refine s_seq ?_
  refine s_seq ?_
  refine s_region ?_
  refine o_val rfl rfl rfl (y_move (v := (.slice _ _ _)) rfl) ?_
  refine o_val rfl rfl rfl (y_len Try.runUnderlying22 rfl) ?_
  refine o_val rfl rfl rfl (y_move (v := (.int _ _)) rfl) ?_
  refine o_nil ?_
  refine s_block ?_
  refine s_loop (γ := Nat) (fun g => [(0, .int .i64 pl), (1, .slice A l.length c), (7, .slice A l.length c), (8, .int .i64 l.length), (9, .int .i64 g)]) (fun g => []) (fun g => g ≤ l.length) (fun g => l.length - g) (0) ?_ ⟨rfl, rfl, rfl, rfl, rfl, trivial⟩ (sub_front ⟨_, rfl⟩) ?_
  · exact Nat.zero_le _
  · intro g _f hI
    refine s_seq ?_
    refine s_region ?_
    refine o_val rfl rfl rfl (y_lss rfl rfl) ?_
    refine o_nil ?_
    refine s_seq ?_
    refine s_if rfl (fun h1 => ?_) (fun h2 => ?_)
    · refine s_skip ?_
      refine s_seq ?_
      refine s_block ?_
      refine s_seq ?_
      refine s_region ?_
      refine o_val rfl rfl rfl (y_indexAddr Try.runUnderlying22 Try.sizeOf24 (some_at (sz := 2) encI_len (i := 0) h (by omega)) rfl rfl (by omega)) ?_
      refine o_val rfl rfl rfl (y_loads (cs := [_, _, _]) Try.isAgg24 Try.sizeOf24 rfl (by unfold idx; rw [Option.isSome_map]; exact some_at (sz := 2) encI_len (i := 0) h (by omega)) rfl (cels_at (sz := 3) encI_len h.here (by omega))) ?_
      refine o_alloc rfl Try.zeroValue24 rfl (fun b3 => ?_)
      refine o_stores (vs := [(.int _ _), (.int _ _), (.int _ _)]) 0 rfl Try.sizeOf24 rfl rfl rfl (by simp [Value.oneCell']) (by simp) ?_
      refine o_nil ?_
      refine s_seq ?_
      refine s_drawn 0 (by kernel_rfl) ?_
      refine d_val (i := 0) rfl (by kernel_rfl) (by kernel_rfl) (by kernel_rfl) rfl rfl rfl (y_loads (cs := [_, _, _]) Try.isAgg24 Try.sizeOf24 rfl rfl rfl (cels_own 0 rfl rfl)) ?_
      refine d_val (i := 2) rfl (by kernel_rfl) (by kernel_rfl) (by kernel_rfl) rfl rfl rfl (y_loads (cs := [_, _, _]) Try.isAgg24 Try.sizeOf24 rfl rfl rfl (cels_own 0 rfl rfl)) ?_
      refine d_eff (k := 1) (n := 0) (m := 1) rfl (by kernel_rfl) rfl ?_
      refine o_fn 0 (d := 14) rfl Try.call15 (Check_c _ _ _ _) rfl ?_
      rintro _ _ ⟨rfl, rfl⟩
      refine o_nil ?_
      refine d_eff (k := 3) (n := 0) (m := 1) rfl (by kernel_rfl) rfl ?_
      refine o_fn 0 (d := 16) rfl Try.call16 (InputFault_c _ _ _ (hw _ (getD_in (i := (g : Int).toNat) (by omega))).1 (hw _ (getD_in (i := (g : Int).toNat) (by omega))).2.1 (hw _ (getD_in (i := (g : Int).toNat) (by omega))).2.2 _) rfl ?_
      rintro _ _ ⟨rfl, rfl⟩
      refine o_nil ?_
      refine d_val (i := 4) rfl (by kernel_rfl) (by kernel_rfl) (by kernel_rfl) rfl rfl rfl (y_neq rfl rfl) ?_
      refine d_nil (n := 0) (m := 1) (by kernel_rfl) rfl ?_
      refine s_if rfl (fun h4 => ?_) (fun h5 => ?_)
      · exact absurd rfl h4
      · refine s_skip ?_
        refine s_region ?_
        refine o_val rfl rfl rfl (y_add rfl rfl (by simp only [inK]; omega)) ?_
        refine o_val rfl rfl rfl (y_move (v := (.int _ _)) rfl) ?_
        refine o_nil ?_
        exact ⟨g + 1, (by first | omega | (dsimp only; omega)), (show g + 1 ≤ l.length by omega), ⟨rfl, rfl, rfl, rfl, (congrArg (Value.int _) (by omega)), trivial⟩, sub_front ⟨_, rfl⟩⟩
    · refine s_exit ?_
      refine s_seq ?_
      refine s_region ?_
      refine o_fn 0 (d := 19) rfl Try.call17 (packed_c _) rfl ?_
      rintro _ _ ⟨rfl, rfl⟩
      refine o_val rfl rfl rfl (y_move (v := (.bool _)) rfl) ?_
      refine o_guard_yes rfl rfl ?_
      refine o_val rfl rfl rfl (y_move (v := (.int _ _)) rfl) ?_
      refine o_guard_yes rfl rfl ?_
      refine o_val rfl rfl rfl (y_move (v := (.slice _ _ _)) rfl) ?_
      refine o_guard_yes rfl rfl ?_
      refine o_fn 0 (d := 23) rfl Try.call18 (Frame_c _ _ _ l h.here.down hb) rfl ?_
      rintro _ _ ⟨rfl, rfl⟩
      refine o_guard_yes rfl rfl ?_
      refine o_val rfl rfl rfl (y_move (v := (.int _ _)) rfl) ?_
      refine o_guard_yes rfl rfl ?_
      refine o_val rfl rfl rfl (y_move (v := (.slice _ _ _)) rfl) ?_
      refine o_guard_yes rfl rfl ?_
      refine o_fn 0 (d := 26) rfl Try.call19 (FrameFault_c _ _ _ l h.here.down hb hw) rfl ?_
      rintro _ _ ⟨rfl, rfl⟩
      refine o_guard_yes rfl rfl ?_
      refine o_split rfl rfl rfl (y_eql rfl rfl) (fun p6 => ?_) (fun p7 => ?_)
      · refine o_val rfl rfl rfl (y_pick_t (v := (.bool _)) rfl rfl) ?_
        refine o_val rfl rfl rfl (y_assign (v := (.bool _)) rfl) ?_
        refine o_nil ?_
        refine s_ret ?_
        exact ⟨_, _, res1 rfl rfl, ⟨rfl, rfl⟩, sub_front ⟨_, rfl⟩⟩
      · exact absurd rfl p7

end Go.Proofs.Ytppciokaldmipaa.K
