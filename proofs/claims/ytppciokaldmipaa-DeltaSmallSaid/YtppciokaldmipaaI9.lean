/- Walks: the law on unpacking. No condition beyond what each statement names. -/
import Derived.Test.YtppciokaldmipaaProg
import Derived.Test.YtppciokaldmipaaK8
import Derived.Test.YtppciokaldmipaaB4
import Derived.Test.YtppciokaldmipaaI1
import Derived.Test.YtppciokaldmipaaI2
import Derived.Test.YtppciokaldmipaaI3
import Derived.Test.YtppciokaldmipaaI4
import Derived.Test.YtppciokaldmipaaI5
import Derived.Test.YtppciokaldmipaaI6
import Derived.Test.YtppciokaldmipaaI7
import Derived.Test.YtppciokaldmipaaI8
set_option linter.unusedVariables false
set_option linter.unusedSimpArgs false
set_option maxRecDepth 100000
namespace Go.Proofs.Ytppciokaldmipaa.K
open Go.RowKit

theorem flat_none {xs : List Inp} (h : xs.flatMap encI = []) : xs = [] := by cases xs with
  | nil => rfl
  | cons a l => simp [encI] at h

theorem CloneI_k0 (w : World) : (Instr.buildSlice 22 0 ([] : List (Nat × Value)).toArray).run Try.prog w = .ok (.slice (some ⟨w.heap.size, 0, none⟩) 0 0) { w with heap := w.heap.push (.cells ([] : List Value).toArray 24 (0, 0)) } := by kernel_rfl
theorem CloneI_c {V : Mem} (A : Option Addr) (n c : Nat) (bb : List Inp) (h : Cels V [] A ((bb).flatMap encI)) (hn : bb.length = n) (hb : n * 24 ≤ 140737488355328) : CallS Try.prog 45 [.slice A n c].toArray V []
    (fun r L' => ∃ B e G, r = .slice B n e ∧ OS B n e 24 3 ((bb).flatMap encI) G ∧ L' = [G]) := by
  refine callS Try.func45 rfl rfl (fun w0 => ?_)
  refine s_seq ?_
  refine s_region ?_
  refine o_val rfl rfl rfl (y_assign (v := (.slice _ _ _)) rfl) ?_
  refine o_nil ?_
  refine s_seq ?_
  refine s_seq ?_
  refine s_region ?_
  refine o_val rfl rfl rfl (y_move (v := (.slice _ _ _)) rfl) ?_
  refine o_val rfl rfl rfl (y_eql_nil Try.underlying22 rfl rfl) ?_
  refine o_nil ?_
  refine s_if rfl (fun h1 => ?_) (fun h2 => ?_)
  · subst h1
    have hbb := h.none_nil
    have hb0 : bb = [] := flat_none hbb
    subst hb0
    obtain rfl : 0 = n := hn
    refine s_seq ?_
    refine s_region ?_
    refine o_val rfl rfl rfl (y_assign (v := (.slice _ _ _)) rfl) ?_
    refine o_nil ?_
    refine s_ret ?_
    exact ⟨_, [[]], res1 rfl rfl, ⟨_, _, [], rfl, OS.nil _ _, rfl⟩, sub_none⟩
  · refine s_skip ?_
    refine s_seq ?_
    refine s_region ?_
    refine o_lit (vs := []) rfl rfl (CloneI_k0) (fun b3 => ?_)
    refine o_val rfl rfl rfl (y_move (v := (.slice _ _ _)) rfl) ?_
    refine o_append (sz := 3) (bytes := 24) (news := (bb).flatMap encI) 0 rfl Try.underlying22 Try.type24 rfl rfl rfl rfl rfl (OS.lit (sz := 3) (n := 0) rfl (by decide)) rfl rfl (Src.rd (sz := 2) Try.underlying22 h.here (by rw [flat_len encI_len, hn]) (encI_one _)) (by omega) (fun A4 c5 E6 ho7 hn8 => ?_)
    have ho9 : OS A4 n c5 24 3 ((bb).flatMap encI) E6 := by simpa using ho7
    clear ho7
    refine o_val rfl rfl rfl (y_assign (v := (.slice _ _ _)) rfl) ?_
    refine o_nil ?_
    refine s_ret ?_
    exact ⟨_, _, res1 rfl rfl, ⟨_, _, _, congrArg (fun k => Value.slice _ k _) (Nat.zero_add _), ho9, rfl⟩, sub_front ⟨_, rfl⟩⟩

def igrp (b : Nat) (p : Nat) : Grp := [(b, .cells [.int .i64 p].toArray 3 (0, 0))]
def sgrp (b : Nat) (A : Option Addr) (n c : Nat) : Grp := [(b, .cells [.slice A n c].toArray 30 (0, 0))]
def bgrp (b : Nat) (o : Bool) : Grp := [(b, .cells [.bool o].toArray 4 (0, 0))]

theorem rdBit_c {V : Mem} (ab bb ob : Nat) (B : Option Addr) (n d p : Nat) (bs : List Int) (h' : Cels V [] B (bs.map (.int .u8))) (hn : bs.length = n) (hbd : ∀ b ∈ bs, 0 ≤ b ∧ b ≤ 255) (hsz : n ≤ 140737488355328) (hp : p ≤ 8 * n) (ov : Bool) (m : Nat) (hm : m ≤ 8) : CallS Try.prog 44 [.int .i64 m, .pointer (some ⟨ab, 0, none⟩), .pointer (some ⟨bb, 0, none⟩), .pointer (some ⟨ob, 0, none⟩)].toArray V [igrp ab p, sgrp bb B n d, bgrp ob ov] (fun r L' => r = .int .i64 (gv bs (8 * n) p m) ∧ L' = [igrp ab (rp (8 * n) p m), sgrp bb B n d, bgrp ob (ro (8 * n) p m ov)]) := by
  refine callS Try.func44 rfl rfl (fun w0 => ?_)
  refine s_seq ?_
  refine s_region ?_
  refine o_val rfl rfl rfl (y_assign (v := (.int _ _)) rfl) ?_
  refine o_nil ?_
  refine s_seq ?_
  refine s_region ?_
  refine o_val rfl rfl rfl (y_assign (v := (.int _ _)) rfl) ?_
  refine o_nil ?_
  refine s_seq ?_
  refine s_seq ?_
  refine s_region ?_
  refine o_val rfl rfl rfl (y_move (v := (.int _ _)) rfl) ?_
  refine o_val rfl rfl rfl (y_move (v := (.int _ _)) rfl) ?_
  refine o_nil ?_
  refine s_block ?_
  refine s_loop (γ := Nat) (fun g => [(1, .pointer (some ⟨ab, 0, none⟩)), (2, .pointer (some ⟨bb, 0, none⟩)), (3, .pointer (some ⟨ob, 0, none⟩)), (6, .int .i64 (num bs p g : Nat)), (8, .int .i64 m), (9, .int .i64 g)]) (fun g => [igrp ab (p + g), sgrp bb B n d, bgrp ob ov]) (fun g => g ≤ m ∧ p + g ≤ 8 * n) (fun g => m - g) (0) ?_ ⟨rfl, rfl, rfl, rfl, rfl, rfl, trivial⟩ (sub_front ⟨_, rfl⟩) ?_
  · exact ⟨Nat.zero_le _, hp⟩
  · intro g _f hI
    obtain ⟨hg, hpg⟩ := hI
    refine s_seq ?_
    refine s_region ?_
    refine o_val rfl rfl rfl (y_lss rfl rfl) ?_
    refine o_nil ?_
    refine s_seq ?_
    refine s_if rfl (fun h1 => ?_) (fun h2 => ?_)
    · refine s_skip ?_
      refine s_seq ?_
      refine s_block ?_
      refine s_seq ?_
      refine s_region ?_
      refine o_val rfl rfl rfl (y_move (v := (.int _ _)) rfl) ?_
      refine o_val rfl rfl rfl (y_assign (v := (.int _ _)) rfl) ?_
      refine o_nil ?_
      refine s_seq ?_
      refine s_seq ?_
      refine s_region ?_
      refine o_val rfl rfl rfl (y_load Try.isAgg3 rfl (cel_own 0 rfl rfl)) ?_
      refine o_val rfl rfl rfl (y_load Try.isAgg30 rfl (cel_own 1 rfl rfl)) ?_
      refine o_val rfl rfl rfl (y_len Try.runUnderlying30 rfl) ?_
      refine o_val rfl rfl rfl (y_mul rfl rfl (by simp only [inK]; omega)) ?_
      refine o_val rfl rfl rfl (y_geq rfl rfl) ?_
      refine o_nil ?_
      refine s_if rfl (fun h3 => ?_) (fun h4 => ?_)
      · have hend := h3
        have hpe : p + g = 8 * n := by omega
        have hlt : 8 * n < p + m := by omega
        refine s_seq ?_
        refine s_region ?_
        refine o_store (v := (.bool _)) 2 rfl Try.sizeOf4 rfl rfl rfl rfl ?_
        refine o_nil ?_
        refine s_seq ?_
        refine s_region ?_
        refine o_val rfl rfl rfl (y_assign (v := (.int _ _)) rfl) ?_
        refine o_nil ?_
        refine s_ret ?_
        exact ⟨_, [_, _, _], res1 rfl rfl, ⟨by unfold gv; rw [if_pos hlt]; rfl, by unfold rp ro; rw [if_pos hlt, hpe, decide_eq_true hlt, Bool.or_true]; rfl⟩, sub_front ⟨_, rfl⟩⟩
      · have hin := h4
        refine s_skip ?_
        refine s_seq ?_
        refine s_quiet (by kernel_rfl) (by kernel_rfl) ?_
        refine q_val rfl rfl rfl (y_move (v := (.int _ _)) rfl) ?_
        refine q_val rfl rfl rfl (y_load Try.isAgg30 rfl (cel_own 1 rfl rfl)) ?_
        refine q_val rfl rfl rfl (y_load Try.isAgg3 rfl (cel_own 0 rfl rfl)) ?_
        refine q_val rfl rfl rfl (y_quo rfl rfl (by simp only [inK]; omega)) ?_
        refine q_val rfl rfl rfl (y_index1 Try.runUnderlying30 Try.sizeOf5 (some_int (i := 0) h' (by omega)) rfl rfl (by omega)) ?_
        refine q_val rfl rfl rfl (y_load Try.isAgg5 rfl (cel_int h'.here (by omega))) ?_
        refine q_val rfl rfl rfl (y_load Try.isAgg3 rfl (cel_own 0 rfl rfl)) ?_
        refine q_val rfl rfl rfl (y_rem rfl rfl (by omega)) ?_
        refine q_val rfl rfl rfl (y_shr rfl rfl (by omega)) ?_
        refine q_val rfl rfl rfl (y_and rfl rfl) ?_
        refine q_val rfl rfl rfl (y_conv Try.runUnderlying5 Try.runUnderlying3 rfl (by exact bit_q_in' hbd (p + g))) ?_
        refine q_val rfl rfl rfl (y_move (v := (.int _ _)) rfl) ?_
        refine q_val rfl rfl rfl (y_shl rfl rfl (by omega)) ?_
        refine q_val rfl rfl rfl (y_add rfl rfl (by exact sum_in hbd (by omega))) ?_
        refine q_val rfl rfl rfl (y_assign (v := (.int _ _)) rfl) ?_
        refine q_nil ?_
        refine s_region ?_
        refine o_val rfl rfl rfl (y_load Try.isAgg3 rfl (cel_own 0 rfl rfl)) ?_
        refine o_val rfl rfl rfl (y_add rfl rfl (by simp only [inK]; omega)) ?_
        refine o_store (v := (.int _ _)) 0 rfl Try.sizeOf3 rfl rfl rfl rfl ?_
        refine o_nil ?_
        refine s_region ?_
        refine o_val rfl rfl rfl (y_add rfl rfl (by simp only [inK]; omega)) ?_
        refine o_val rfl rfl rfl (y_move (v := (.int _ _)) rfl) ?_
        refine o_nil ?_
        exact ⟨g + 1, (by first | omega | (dsimp only; omega)), ⟨by omega, by omega⟩, ⟨rfl, rfl, rfl, (congrArg (Value.int .i64) (sum_step hbd (by omega))), rfl, (congrArg (Value.int _) (by omega)), trivial⟩, sub_front ⟨_, rfl⟩⟩
    · refine s_exit ?_
      refine s_seq ?_
      refine s_region ?_
      refine o_val rfl rfl rfl (y_move (v := (.int _ _)) rfl) ?_
      refine o_val rfl rfl rfl (y_assign (v := (.int _ _)) rfl) ?_
      refine o_nil ?_
      refine s_ret ?_
      obtain rfl : g = m := by omega
      have hge : ¬ 8 * n < p + g := by omega
      exact ⟨_, [_, _, _], res1 rfl rfl, ⟨by unfold gv; rw [if_neg hge]; rfl, by unfold rp ro; rw [if_neg hge, decide_eq_false hge, Bool.or_false]⟩, sub_front ⟨_, rfl⟩⟩

theorem Packed_n {V : Mem} (A : Option Addr) (c : Nat) (l : List Inp) (h : Cels V [] A (l.flatMap encI)) (hb : l.length ≤ 140737488355328) (B : Option Addr) (d : Nat) (l' : List Inp) (h' : Cels V [] B (l'.flatMap encI)) (hb' : l'.length ≤ 140737488355328) (hf1 : okFr l.length l) (hf2 : okFr l.length l') {m : Nat} (hm : l'.length = m) :
    CallS Try.prog 22 [.slice A l.length c, .slice B m d].toArray V [] (fun r L' => ∃ R n e bs G, r = .slice R n e ∧ OS R n e 5 1 (bs.map (.int .u8)) G ∧ Wr bs (packTo l l' l'.length) ∧ L' = [G]) := by
  subst hm; exact Packed_c A c l h hb B d l' h' hb' hf1 hf2

theorem law_end {bs : List Int} {N : Nat} {l : List Inp} {p : Nat} {ov : Bool} {ws : List Inp} (h : lawOK bs N l l.length p ov ws) (ho : ov = false) : unTo bs N l l.length = some (ws, p) := by
  obtain ⟨xs, _, h1, h2⟩ := h.2.2.2 ho
  rw [h2, h1]; simp
theorem up_bad {l : List Inp} {bs : List Int} {xs : List Inp} {er : Int} (h : upOK l bs xs er) (hf : ¬ frErr l.length l = 0) : er = frErr l.length l ∧ xs = [] := by
  rcases h with h | h | h
  · exact ⟨h.2.1.trans (frErr_nz hf).symm, h.2.2⟩
  · exact absurd (frErr_ok h.1).symm hf
  · exact absurd (frErr_ok h.1).symm hf
theorem up_over {l : List Inp} {bs : List Int} {xs : List Inp} {er : Int} (h : upOK l bs xs er) (hf : okFr l.length l) (hn : unTo bs (8 * bs.length) l l.length = none) : er = 14 ∧ xs = [] := by
  rcases h with h | h | h
  · exact absurd hf h.1
  · exact h.2.2
  · obtain ⟨_, ys, p, h1, _⟩ := h; rw [hn] at h1; cases h1
theorem up_some {l : List Inp} {bs : List Int} {xs : List Inp} {er : Int} {ys : List Inp} {p : Nat} (h : upOK l bs xs er) (hf : okFr l.length l) (hn : unTo bs (8 * bs.length) l l.length = some (ys, p)) : (Wr bs (packTo l ys l.length) ∧ er = 0 ∧ xs = ys) ∨ (¬ Wr bs (packTo l ys l.length) ∧ er = 3 ∧ xs = []) := by
  rcases h with h | h | h
  · exact absurd hf h.1
  · rw [hn] at h; cases h.2.1
  · obtain ⟨_, zs, q, h1, h2⟩ := h; rw [hn] at h1; cases h1; exact h2

theorem InputUnpacks_c {V : Mem} (A : Option Addr) (c : Nat) (l : List Inp) (h : Cels V [] A (l.flatMap encI)) (hb : l.length ≤ 140737488355328) (hw : ∀ i ∈ l, i.fit) (B : Option Addr) (n d : Nat) (bs : List Int) (h' : Cels V [] B (bs.map (.int .u8))) (hn : bs.length = n) (hbd : ∀ b ∈ bs, 0 ≤ b ∧ b ≤ 255) (hsz : n ≤ 140737488355328) : CallS Try.prog 10 [.slice A l.length c, .slice B n d].toArray V [] (fun r L' => r = .bool true ∧ L' = []) := by
  refine callS Try.func10 rfl rfl (fun w0 => ?_)
  refine s_seq ?_
  refine s_region ?_
  refine o_box (v := (.slice _ _ _)) rfl rfl rfl (fun b1 => ?_)
  refine o_val rfl rfl rfl (y_assign (v := (.bool _)) rfl) ?_
  refine o_nil ?_
  refine s_seq ?_
  refine s_region ?_
  refine o_val rfl rfl rfl (y_move (v := (.slice _ _ _)) rfl) ?_
  refine o_val rfl rfl rfl (y_load Try.isAgg30 rfl (cel_own 0 rfl rfl)) ?_
  refine o_fn 0 (d := 17) rfl Try.call40 (Unpack_c _ _ l h.here.down hb _ n _ bs h'.here.down hn hbd hsz) rfl ?_
  rintro _ _ ⟨R, m, e, gs, GG, er, rfl, hGo, hup, rfl⟩
  refine o_val rfl rfl rfl (y_move (v := (.tuple #[(.slice _ _ _), (.int _ _)])) rfl) ?_
  refine o_val rfl rfl rfl (y_extract (v := (.slice _ _ _)) rfl rfl) ?_
  refine o_val rfl rfl rfl (y_extract (v := (.int _ _)) rfl rfl) ?_
  refine o_val rfl rfl rfl (y_assign (v := (.slice _ _ _)) rfl) ?_
  refine o_val rfl rfl rfl (y_assign (v := (.int _ _)) rfl) ?_
  refine o_nil ?_
  refine s_seq ?_
  refine s_region ?_
  refine o_val rfl rfl rfl (y_move (v := (.slice _ _ _)) rfl) ?_
  refine o_val rfl rfl rfl (y_len Try.runUnderlying22 rfl) ?_
  refine o_val rfl rfl rfl (y_move (v := (.slice _ _ _)) rfl) ?_
  refine o_fn 0 (d := 23) rfl Try.call19 (FrameFault_c _ _ _ l h.here.down hb hw) rfl ?_
  rintro _ _ ⟨rfl, rfl⟩
  refine o_val rfl rfl rfl (y_assign (v := (.int _ _)) rfl) ?_
  refine o_nil ?_
  refine s_seq ?_
  refine s_seq ?_
  refine s_region ?_
  refine o_fn 0 (d := 24) rfl Try.call17 (packed_c _) rfl ?_
  rintro _ _ ⟨rfl, rfl⟩
  refine o_val rfl rfl rfl (y_notb rfl) ?_
  refine o_val rfl rfl rfl (y_move (v := (.bool _)) rfl) ?_
  refine o_guard_yes rfl rfl ?_
  refine o_val rfl rfl rfl (y_move (v := (.int _ _)) rfl) ?_
  refine o_guard_yes rfl rfl ?_
  refine o_val rfl rfl rfl (y_neq rfl rfl) ?_
  refine o_val rfl rfl rfl (y_pick_f (v := (.bool _)) rfl rfl) ?_
  refine o_nil ?_
  refine s_if rfl (fun h2 => ?_) (fun h3 => ?_)
  · have h2 := h2
    have hx2 := up_bad hup h2
    have hx := hx2.2
    refine s_seq ?_
    refine s_region ?_
    refine o_fn 0 (d := 30) rfl Try.call17 (packed_c _) rfl ?_
    rintro _ _ ⟨rfl, rfl⟩
    refine o_val rfl rfl rfl (y_move (v := (.bool _)) rfl) ?_
    refine o_guard_yes rfl rfl ?_
    refine o_val rfl rfl rfl (y_move (v := (.int _ _)) rfl) ?_
    refine o_guard_yes rfl rfl ?_
    refine o_val rfl rfl rfl (y_move (v := (.int _ _)) rfl) ?_
    refine o_guard_yes rfl rfl ?_
    refine o_split rfl rfl rfl (y_eql rfl rfl) (fun p4 => ?_) (fun p5 => ?_)
    · refine o_val rfl rfl rfl (y_pick_t (v := (.bool _)) rfl rfl) ?_
      refine o_val rfl rfl rfl (y_move (v := (.bool _)) rfl) ?_
      refine o_guard_yes rfl rfl ?_
      refine o_val rfl rfl rfl (y_move (v := (.slice _ _ _)) rfl) ?_
      refine o_guard_yes rfl rfl ?_
      refine o_val rfl rfl rfl (y_len Try.runUnderlying22 rfl) ?_
      refine o_guard_yes rfl rfl ?_
      refine o_val rfl rfl rfl (y_eql rfl rfl) ?_
      refine o_val rfl rfl rfl (y_pick_t (v := (.bool _)) rfl rfl) ?_
      refine o_val rfl rfl rfl (y_assign (v := (.bool _)) rfl) ?_
      refine o_nil ?_
      refine s_ret ?_
      exact ⟨_, _, res1 rfl rfl, ⟨congrArg Value.bool (decide_eq_true (congrArg Nat.cast (show m = 0 by skip; have hGl := hGo.len; rw [hx] at hGl; simp only [List.flatMap_nil, List.length_nil] at hGl; omega))), rfl⟩, sub_front ⟨_, rfl⟩⟩
    · exact absurd hx2.1 p5
  · have hf := frErr_z (Decidable.not_not.1 h3)
    have hl8 := hf.2.1
    refine s_skip ?_
    refine s_seq ?_
    refine s_region ?_
    refine o_alloc rfl Try.zeroValue3 rfl (fun b6 => ?_)
    refine o_alloc rfl Try.zeroValue4 rfl (fun b7 => ?_)
    refine o_store (v := (.int _ _)) 2 rfl Try.sizeOf3 rfl rfl rfl rfl ?_
    refine o_store (v := (.bool _)) 3 rfl Try.sizeOf4 rfl rfl rfl rfl ?_
    refine o_nil ?_
    refine s_seq ?_
    refine s_region ?_
    refine o_val rfl rfl rfl (y_func' (xs := []) (a := []) (b := [(.pointer _), (.pointer _), (.pointer _)]) rfl rfl) ?_
    refine o_val rfl rfl rfl (y_assign (v := (.func _ _ _)) rfl) ?_
    refine o_nil ?_
    refine s_seq ?_
    refine s_region ?_
    refine o_val rfl rfl rfl (y_move (v := (.slice _ _ _)) rfl) ?_
    refine o_fn 0 (d := 43) rfl Try.call45 (CloneI_c _ _ _ l h.here.down rfl (by omega)) rfl ?_
    rintro _ _ ⟨WA, wc, WE, rfl, hWo, rfl⟩
    refine o_val rfl rfl rfl (y_assign (v := (.slice _ _ _)) rfl) ?_
    refine o_nil ?_
    refine s_seq ?_
    refine s_seq ?_
    refine s_region ?_
    refine o_val rfl rfl rfl (y_move (v := (.slice _ _ _)) rfl) ?_
    refine o_val rfl rfl rfl (y_len Try.runUnderlying22 rfl) ?_
    refine o_val rfl rfl rfl (y_move (v := (.int _ _)) rfl) ?_
    refine o_nil ?_
    refine s_block ?_
    refine s_sub_picks [3, 2, 2, 0, 0] rfl ?_
    refine s_loop (γ := G1 × List Inp × Nat × Bool) (fun g => [(0, .slice A l.length c), (3, .pointer (some ⟨b1, 0, none⟩)), (5, .slice R m e), (6, .int .i64 er), (9, .pointer (some ⟨b7, 0, none⟩)), (10, .func (.func 44) #[] [.pointer (some ⟨b6, 0, none⟩), .pointer (some ⟨b1, 0, none⟩), .pointer (some ⟨b7, 0, none⟩)].toArray), (11, .slice WA l.length wc), (44, .slice A l.length c), (45, .int .i64 l.length), (46, .int .i64 g.1.i)]) (fun g => [igrp b6 g.2.2.1, sgrp b1 B n d, bgrp b7 g.2.2.2, g.1.E, GG]) (fun g => g.1.i ≤ l.length ∧ OS WA l.length wc 24 3 (g.2.1.flatMap encI) g.1.E ∧ lawOK bs (8 * n) l g.1.i g.2.2.1 g.2.2.2 g.2.1) (fun g => l.length - g.1.i) ((G1.mk 0 none 0 0 WE, l, 0, false)) ?_ ⟨rfl, rfl, rfl, rfl, rfl, rfl, rfl, rfl, rfl, rfl, trivial⟩ (sub_front ⟨_, rfl⟩) ?_
    · exact ⟨Nat.zero_le _, hWo, Nat.zero_le _, rfl, (fun e => by cases e), fun _ => ⟨[], rfl, rfl, rfl⟩⟩
    · intro g _f hI
      obtain ⟨hi, hwo, hlaw⟩ := hI
      have hwl := hlaw.2.1
      refine s_seq ?_
      refine s_region ?_
      refine o_val rfl rfl rfl (y_lss rfl rfl) ?_
      refine o_nil ?_
      refine s_seq ?_
      refine s_if rfl (fun h8 => ?_) (fun h9 => ?_)
      · refine s_skip ?_
        refine s_seq ?_
        refine s_block ?_
        refine s_seq ?_
        refine s_region ?_
        refine o_val rfl rfl rfl (y_move (v := (.int _ _)) rfl) ?_
        refine o_val rfl rfl rfl (y_indexAddr Try.runUnderlying22 Try.sizeOf24 (some_at (sz := 2) encI_len (i := 0) h (by omega)) rfl rfl (by omega)) ?_
        refine o_val rfl rfl rfl (y_loads (cs := [_, _, _]) Try.isAgg24 Try.sizeOf24 rfl (by unfold idx; rw [Option.isSome_map]; exact some_at (sz := 2) encI_len (i := 0) h (by omega)) rfl (cels_at (sz := 3) encI_len h.here (by omega))) ?_
        refine o_alloc rfl Try.zeroValue24 rfl (fun b10 => ?_)
        refine o_val rfl rfl rfl (y_assign (v := (.int _ _)) rfl) ?_
        refine o_stores (vs := [(.int _ _), (.int _ _), (.int _ _)]) 5 rfl Try.sizeOf24 rfl rfl rfl (by simp [Value.oneCell']) (by simp) ?_
        refine o_nil ?_
        refine s_seq ?_
        refine s_seq ?_
        refine s_region ?_
        refine o_val rfl rfl rfl (y_move (v := (.func _ _ _)) rfl) ?_
        refine o_fnv' 3 (d := 52) rfl Try.call44 rfl rfl rfl (rdBit_c _ _ _ B n d g.2.2.1 bs h'.here.down hn hbd hsz hlaw.1 g.2.2.2 1 (by omega)) ?_
        rintro _ _ ⟨rfl, rfl⟩
        refine o_val rfl rfl rfl (y_eql rfl rfl) ?_
        refine o_nil ?_
        refine s_if rfl (fun h11 => ?_) (fun h12 => ?_)
        · have hg1 := h11
          refine s_exit ?_
          refine s_region ?_
          refine o_val rfl rfl rfl (y_add rfl rfl (by simp only [inK]; omega)) ?_
          refine o_val rfl rfl rfl (y_move (v := (.int _ _)) rfl) ?_
          refine o_nil ?_
          exact ⟨(G1.mk (g.1.i + 1) none 0 0 g.1.E, g.2.1, (rp (8 * n) g.2.2.1 1), (ro (8 * n) g.2.2.1 1 g.2.2.2)), (by first | omega | (dsimp only; omega)), ⟨by dsimp only; omega, hwo, lawA hlaw (by omega) hg1⟩, ⟨rfl, rfl, rfl, rfl, rfl, rfl, rfl, rfl, rfl, (congrArg (Value.int _) (by dsimp only; omega)), trivial⟩, sub_picks [0, 0, 0, 0, 0] rfl⟩
        · have hg1 := h12
          refine s_skip ?_
          refine s_seq ?_
          refine s_pull 3 ?_
          refine s_pull 3 ?_
          refine s_pull 3 ?_
          refine s_pull 3 ?_
          refine s_drawn 4 (by kernel_rfl) ?_
          refine d_val (i := 0) rfl (by kernel_rfl) (by kernel_rfl) (by kernel_rfl) rfl rfl rfl (y_move (v := (.slice _ _ _)) rfl) ?_
          refine d_val (i := 1) rfl (by kernel_rfl) (by kernel_rfl) (by kernel_rfl) rfl rfl rfl (y_move (v := (.int _ _)) rfl) ?_
          refine d_val (i := 2) rfl (by kernel_rfl) (by kernel_rfl) (by kernel_rfl) rfl rfl rfl (y_move (v := (.func _ _ _)) rfl) ?_
          refine d_val (i := 4) rfl (by kernel_rfl) (by kernel_rfl) (by kernel_rfl) rfl rfl rfl (y_field0 Try.runUnderlying24 rfl Try.sizeOf3 rfl rfl) ?_
          refine d_val (i := 5) rfl (by kernel_rfl) (by kernel_rfl) (by kernel_rfl) rfl rfl rfl (y_load Try.isAgg3 rfl (cel_own 1 rfl rfl)) ?_
          refine d_eff (k := 3) (n := 4) (m := 2) rfl (by kernel_rfl) rfl ?_
          refine o_fnv' 3 (d := 57) rfl Try.call44 rfl rfl rfl (rdBit_c _ _ _ B n d (rp (8 * n) g.2.2.1 1) bs h'.here.down hn hbd hsz rp_le (ro (8 * n) g.2.2.1 1 g.2.2.2) 8 (by omega)) ?_
          rintro _ _ ⟨rfl, rfl⟩
          refine o_nil ?_
          refine d_val (i := 6) rfl (by kernel_rfl) (by kernel_rfl) (by kernel_rfl) rfl rfl rfl (y_xor rfl rfl) ?_
          refine d_val (i := 7) rfl (by kernel_rfl) (by kernel_rfl) (by kernel_rfl) rfl rfl rfl (y_indexAddr Try.runUnderlying22 Try.sizeOf24 (hwo.some_of (by omega)) rfl rfl (by omega)) ?_
          refine d_val (i := 8) rfl (by kernel_rfl) (by kernel_rfl) (by kernel_rfl) rfl rfl rfl (y_fieldX (F := 0) Try.runUnderlying24 rfl Try.sizeOf3 rfl (hwo.some_of (by omega)) rfl) ?_
          refine d_eff (k := 9) (n := 4) (m := 2) rfl (by kernel_rfl) rfl ?_
          refine o_store_os (vs := [(.int _ _)]) 3 rfl hwo Try.sizeOf3 rfl rfl rfl (by simp [Value.oneCell']) (by simp) (by rw [flat_len encI_len]; simp only [List.length_cons, List.length_nil, setK_len, setX_len, setY_len]; omega) (fun E13 ho14 => ?_)
          have ho15 : OS WA l.length wc 24 3 ((setK g.2.1 g.1.i (bXor .i64 (gv bs (8 * n) (rp (8 * n) g.2.2.1 1) 8) (l.getD g.1.i default).k)).flatMap encI) E13 := os_eq ho14 (lay_set (i := g.1.i) (k := 0) encI_len (by (try simp only [setK_len, setX_len, setY_len]); omega) (Nat.le_of_ble_eq_true rfl) rfl)
          clear ho14
          refine o_nil ?_
          refine d_nil (n := 4) (m := 2) (by kernel_rfl) rfl ?_
          refine s_seq ?_
          refine s_region ?_
          refine o_val rfl rfl rfl (y_move (v := (.func _ _ _)) rfl) ?_
          refine o_fnv' 3 (d := 64) rfl Try.call44 rfl rfl rfl (rdBit_c _ _ _ B n d (rp (8 * n) (rp (8 * n) g.2.2.1 1) 8) bs h'.here.down hn hbd hsz rp_le (ro (8 * n) (rp (8 * n) g.2.2.1 1) 8 (ro (8 * n) g.2.2.1 1 g.2.2.2)) 1 (by omega)) ?_
          rintro _ _ ⟨rfl, rfl⟩
          refine o_val rfl rfl rfl (y_eql rfl rfl) ?_
          refine o_nil ?_
          refine s_if rfl (fun h16 => ?_) (fun h17 => ?_)
          · have hg2 := h16
            refine s_seq ?_
            refine s_region ?_
            refine o_val rfl rfl rfl (y_move (v := (.slice _ _ _)) rfl) ?_
            refine o_val rfl rfl rfl (y_move (v := (.int _ _)) rfl) ?_
            refine o_val rfl rfl rfl (y_move (v := (.func _ _ _)) rfl) ?_
            refine o_fnv' 3 (d := 69) rfl Try.call44 rfl rfl rfl (rdBit_c _ _ _ B n d (rp (8 * n) (rp (8 * n) (rp (8 * n) g.2.2.1 1) 8) 1) bs h'.here.down hn hbd hsz rp_le (ro (8 * n) (rp (8 * n) (rp (8 * n) g.2.2.1 1) 8) 1 (ro (8 * n) (rp (8 * n) g.2.2.1 1) 8 (ro (8 * n) g.2.2.1 1 g.2.2.2))) 8 (by omega)) ?_
            rintro _ _ ⟨rfl, rfl⟩
            refine o_val rfl rfl rfl (y_sub rfl rfl (gv8_sub)) ?_
            refine o_val rfl rfl rfl (y_indexAddr Try.runUnderlying22 Try.sizeOf24 (ho15.some_of (by omega)) rfl rfl (by omega)) ?_
            refine o_val rfl rfl rfl (y_fieldX (F := 1) Try.runUnderlying24 rfl Try.sizeOf3 rfl (ho15.some_of (by omega)) rfl) ?_
            refine o_store_os (vs := [(.int _ _)]) 3 rfl ho15 Try.sizeOf3 rfl rfl rfl (by simp [Value.oneCell']) (by simp) (by rw [flat_len encI_len]; simp only [List.length_cons, List.length_nil, setK_len, setX_len, setY_len]; omega) (fun E18 ho19 => ?_)
            have ho20 : OS WA l.length wc 24 3 ((setX (setK g.2.1 g.1.i (bXor .i64 (gv bs (8 * n) (rp (8 * n) g.2.2.1 1) 8) (l.getD g.1.i default).k)) g.1.i (gv bs (8 * n) (rp (8 * n) (rp (8 * n) (rp (8 * n) g.2.2.1 1) 8) 1) 8 - 128)).flatMap encI) E18 := os_eq ho19 (lay_set (i := g.1.i) (k := 1) encI_len (by (try simp only [setK_len, setX_len, setY_len]); omega) (Nat.le_of_ble_eq_true rfl) rfl)
            clear ho19
            refine o_nil ?_
            refine s_region ?_
            refine o_val rfl rfl rfl (y_move (v := (.slice _ _ _)) rfl) ?_
            refine o_val rfl rfl rfl (y_move (v := (.int _ _)) rfl) ?_
            refine o_val rfl rfl rfl (y_move (v := (.func _ _ _)) rfl) ?_
            refine o_fnv' 3 (d := 76) rfl Try.call44 rfl rfl rfl (rdBit_c _ _ _ B n d (rp (8 * n) (rp (8 * n) (rp (8 * n) (rp (8 * n) g.2.2.1 1) 8) 1) 8) bs h'.here.down hn hbd hsz rp_le (ro (8 * n) (rp (8 * n) (rp (8 * n) (rp (8 * n) g.2.2.1 1) 8) 1) 8 (ro (8 * n) (rp (8 * n) (rp (8 * n) g.2.2.1 1) 8) 1 (ro (8 * n) (rp (8 * n) g.2.2.1 1) 8 (ro (8 * n) g.2.2.1 1 g.2.2.2)))) 8 (by omega)) ?_
            rintro _ _ ⟨rfl, rfl⟩
            refine o_val rfl rfl rfl (y_sub rfl rfl (gv8_sub)) ?_
            refine o_val rfl rfl rfl (y_indexAddr Try.runUnderlying22 Try.sizeOf24 (ho20.some_of (by omega)) rfl rfl (by omega)) ?_
            refine o_val rfl rfl rfl (y_fieldX (F := 2) Try.runUnderlying24 rfl Try.sizeOf3 rfl (ho20.some_of (by omega)) rfl) ?_
            refine o_store_os (vs := [(.int _ _)]) 3 rfl ho20 Try.sizeOf3 rfl rfl rfl (by simp [Value.oneCell']) (by simp) (by rw [flat_len encI_len]; simp only [List.length_cons, List.length_nil, setK_len, setX_len, setY_len]; omega) (fun E21 ho22 => ?_)
            have ho23 : OS WA l.length wc 24 3 ((setY (setX (setK g.2.1 g.1.i (bXor .i64 (gv bs (8 * n) (rp (8 * n) g.2.2.1 1) 8) (l.getD g.1.i default).k)) g.1.i (gv bs (8 * n) (rp (8 * n) (rp (8 * n) (rp (8 * n) g.2.2.1 1) 8) 1) 8 - 128)) g.1.i (gv bs (8 * n) (rp (8 * n) (rp (8 * n) (rp (8 * n) (rp (8 * n) g.2.2.1 1) 8) 1) 8) 8 - 128)).flatMap encI) E21 := os_eq ho22 (lay_set (i := g.1.i) (k := 2) encI_len (by (try simp only [setK_len, setX_len, setY_len]); omega) (Nat.le_of_ble_eq_true rfl) rfl)
            clear ho22
            refine o_nil ?_
            refine s_region ?_
            refine o_val rfl rfl rfl (y_add rfl rfl (by simp only [inK]; omega)) ?_
            refine o_val rfl rfl rfl (y_move (v := (.int _ _)) rfl) ?_
            refine o_nil ?_
            exact ⟨(G1.mk (g.1.i + 1) none 0 0 E21, (setY (setX (setK g.2.1 g.1.i (bXor .i64 (gv bs (8 * n) (rp (8 * n) g.2.2.1 1) 8) (l.getD g.1.i default).k)) g.1.i (gv bs (8 * n) (rp (8 * n) (rp (8 * n) (rp (8 * n) g.2.2.1 1) 8) 1) 8 - 128)) g.1.i (gv bs (8 * n) (rp (8 * n) (rp (8 * n) (rp (8 * n) (rp (8 * n) g.2.2.1 1) 8) 1) 8) 8 - 128)), (rp (8 * n) (rp (8 * n) (rp (8 * n) (rp (8 * n) (rp (8 * n) g.2.2.1 1) 8) 1) 8) 8), (ro (8 * n) (rp (8 * n) (rp (8 * n) (rp (8 * n) (rp (8 * n) g.2.2.1 1) 8) 1) 8) 8 (ro (8 * n) (rp (8 * n) (rp (8 * n) (rp (8 * n) g.2.2.1 1) 8) 1) 8 (ro (8 * n) (rp (8 * n) (rp (8 * n) g.2.2.1 1) 8) 1 (ro (8 * n) (rp (8 * n) g.2.2.1 1) 8 (ro (8 * n) g.2.2.1 1 g.2.2.2)))))), (by first | omega | (dsimp only; omega)), ⟨by dsimp only; omega, ho23, lawD hlaw (by omega) hg1 hg2⟩, ⟨rfl, rfl, rfl, rfl, rfl, rfl, rfl, rfl, rfl, (congrArg (Value.int _) (by dsimp only; omega)), trivial⟩, sub_picks [0, 0, 0, 0, 0] rfl⟩
          · have hg2 := h17
            refine s_skip ?_
            refine s_region ?_
            refine o_val rfl rfl rfl (y_add rfl rfl (by simp only [inK]; omega)) ?_
            refine o_val rfl rfl rfl (y_move (v := (.int _ _)) rfl) ?_
            refine o_nil ?_
            exact ⟨(G1.mk (g.1.i + 1) none 0 0 E13, (setK g.2.1 g.1.i (bXor .i64 (gv bs (8 * n) (rp (8 * n) g.2.2.1 1) 8) (l.getD g.1.i default).k)), (rp (8 * n) (rp (8 * n) (rp (8 * n) g.2.2.1 1) 8) 1), (ro (8 * n) (rp (8 * n) (rp (8 * n) g.2.2.1 1) 8) 1 (ro (8 * n) (rp (8 * n) g.2.2.1 1) 8 (ro (8 * n) g.2.2.1 1 g.2.2.2)))), (by first | omega | (dsimp only; omega)), ⟨by dsimp only; omega, ho15, lawB hlaw (by omega) hg1 hg2⟩, ⟨rfl, rfl, rfl, rfl, rfl, rfl, rfl, rfl, rfl, (congrArg (Value.int _) (by dsimp only; omega)), trivial⟩, sub_picks [0, 0, 0, 0, 0] rfl⟩
      · refine s_exit ?_
        refine s_seq ?_
        refine s_block ?_
        refine s_seq ?_
        refine s_region ?_
        have hin : g.1.i = l.length := by omega
        rw [hin] at hlaw
        refine o_val rfl rfl rfl (y_load Try.isAgg4 rfl (cel_own 2 rfl rfl)) ?_
        refine o_val rfl rfl rfl (y_assign (v := (.bool _)) rfl) ?_
        refine o_nil ?_
        refine s_ifb rfl (fun h24 => ?_) (fun h25 => ?_)
        · have hov := up_over hup hf (by rw [hn]; exact hlaw.2.2.1 h24)
          have hx := hov.2
          refine s_seq ?_
          refine s_region ?_
          refine o_val rfl rfl rfl (y_move (v := (.int _ _)) rfl) ?_
          refine o_split rfl rfl rfl (y_eql rfl rfl) (fun p26 => ?_) (fun p27 => ?_)
          · refine o_val rfl rfl rfl (y_move (v := (.bool _)) rfl) ?_
            refine o_guard_yes rfl rfl ?_
            refine o_val rfl rfl rfl (y_move (v := (.slice _ _ _)) rfl) ?_
            refine o_guard_yes rfl rfl ?_
            refine o_val rfl rfl rfl (y_len Try.runUnderlying22 rfl) ?_
            refine o_guard_yes rfl rfl ?_
            refine o_val rfl rfl rfl (y_eql rfl rfl) ?_
            refine o_val rfl rfl rfl (y_pick_t (v := (.bool _)) rfl rfl) ?_
            refine o_val rfl rfl rfl (y_assign (v := (.bool _)) rfl) ?_
            refine o_nil ?_
            refine s_ret ?_
            exact ⟨_, _, res1 rfl rfl, ⟨congrArg Value.bool (decide_eq_true (congrArg Nat.cast (show m = 0 by skip; have hGl := hGo.len; rw [hx] at hGl; simp only [List.flatMap_nil, List.length_nil] at hGl; omega))), rfl⟩, sub_front ⟨_, rfl⟩⟩
          · exact absurd hov.1 p27
        · have hend := law_end hlaw h25
          have hf2 : okFr l.length g.2.1 := ⟨hf.1, hf.2.1, by omega, (unTo_ok hf.2.2.2 (Nat.le_refl _) hend).2.2⟩
          have hsome := up_some hup hf (by rw [hn]; exact hend)
          refine s_seq ?_
          refine s_drawn 0 (by kernel_rfl) ?_
          refine d_val (i := 0) rfl (by kernel_rfl) (by kernel_rfl) (by kernel_rfl) rfl rfl rfl (y_move (v := (.slice _ _ _)) rfl) ?_
          refine d_val (i := 1) rfl (by kernel_rfl) (by kernel_rfl) (by kernel_rfl) rfl rfl rfl (y_move (v := (.slice _ _ _)) rfl) ?_
          refine d_val (i := 3) rfl (by kernel_rfl) (by kernel_rfl) (by kernel_rfl) rfl rfl rfl (y_load Try.isAgg30 rfl (cel_own 1 rfl rfl)) ?_
          refine d_eff (k := 2) (n := 0) (m := 5) rfl (by kernel_rfl) rfl ?_
          refine o_fn 0 (d := 93) rfl Try.call22 (Packed_n _ _ l h.here.down hb _ _ g.2.1 (hwo.cels (j := 3) rfl).down (by omega) hf hf2 hwl) rfl ?_
          rintro _ _ ⟨R2, n2, e2, bs2, G2, rfl, hos2, hW2, rfl⟩
          refine o_nil ?_
          refine d_eff (k := 4) (n := 1) (m := 5) rfl (by kernel_rfl) rfl ?_
          refine o_fn 0 (d := 95) rfl Try.call21 (BEqual_c _ _ _ bs2 (hos2.cels (j := 0) rfl).down (by simpa using hos2.len) hW2.2.1 _ _ _ bs h'.here.down hn hbd) rfl ?_
          rintro _ _ ⟨rfl, rfl⟩
          refine o_nil ?_
          refine d_val (i := 5) rfl (by kernel_rfl) (by kernel_rfl) (by kernel_rfl) rfl rfl rfl (y_not rfl) ?_
          refine d_val (i := 6) rfl (by kernel_rfl) (by kernel_rfl) (by kernel_rfl) rfl rfl rfl (y_assign (v := (.bool _)) rfl) ?_
          refine d_nil (n := 1) (m := 5) (by kernel_rfl) rfl ?_
          refine s_if rfl (fun h28 => ?_) (fun h29 => ?_)
          · have hne := h28
            have hbadx := hsome.resolve_left (fun hh => hne (hW2.unique (by rw [hwl]; exact hh.1)))
            have hx := hbadx.2.2
            refine s_seq ?_
            refine s_region ?_
            refine o_val rfl rfl rfl (y_move (v := (.int _ _)) rfl) ?_
            refine o_split rfl rfl rfl (y_eql rfl rfl) (fun p30 => ?_) (fun p31 => ?_)
            · refine o_val rfl rfl rfl (y_move (v := (.bool _)) rfl) ?_
              refine o_guard_yes rfl rfl ?_
              refine o_val rfl rfl rfl (y_move (v := (.slice _ _ _)) rfl) ?_
              refine o_guard_yes rfl rfl ?_
              refine o_val rfl rfl rfl (y_len Try.runUnderlying22 rfl) ?_
              refine o_guard_yes rfl rfl ?_
              refine o_val rfl rfl rfl (y_eql rfl rfl) ?_
              refine o_val rfl rfl rfl (y_pick_t (v := (.bool _)) rfl rfl) ?_
              refine o_val rfl rfl rfl (y_assign (v := (.bool _)) rfl) ?_
              refine o_nil ?_
              refine s_ret ?_
              exact ⟨_, _, res1 rfl rfl, ⟨congrArg Value.bool (decide_eq_true (congrArg Nat.cast (show m = 0 by skip; have hGl := hGo.len; rw [hx] at hGl; simp only [List.flatMap_nil, List.length_nil] at hGl; omega))), rfl⟩, sub_front ⟨_, rfl⟩⟩
            · exact absurd hbadx.2.1 p31
          · have heq := Decidable.not_not.1 h29
            have hgood := hsome.resolve_right (fun hh => hh.1 (by rw [← heq, ← hwl]; exact hW2))
            have hxs := hgood.2.2
            refine s_skip ?_
            refine s_seq ?_
            refine s_region ?_
            refine o_val rfl rfl rfl (y_move (v := (.int _ _)) rfl) ?_
            refine o_split rfl rfl rfl (y_eql rfl rfl) (fun p32 => ?_) (fun p33 => ?_)
            · refine o_val rfl rfl rfl (y_move (v := (.bool _)) rfl) ?_
              refine o_guard_yes rfl rfl ?_
              refine o_val rfl rfl rfl (y_move (v := (.slice _ _ _)) rfl) ?_
              refine o_guard_yes rfl rfl ?_
              refine o_val rfl rfl rfl (y_move (v := (.slice _ _ _)) rfl) ?_
              refine o_guard_yes rfl rfl ?_
              refine o_fn 0 (d := 109) rfl Try.call42 (EqI_c _ _ _ gs (hGo.cels (j := 5) rfl).down (by have := hGo.len; rw [flat_len encI_len] at this; omega) _ _ _ g.2.1 (hwo.cels (j := 4) rfl).down hwl (by have := hGo.len; rw [flat_len encI_len] at this; have := hxs; subst this; omega)) rfl ?_
              rintro _ _ ⟨rfl, rfl⟩
              refine o_val rfl rfl rfl (y_pick_t (v := (.bool _)) rfl rfl) ?_
              refine o_val rfl rfl rfl (y_assign (v := (.bool _)) rfl) ?_
              refine o_nil ?_
              refine s_ret ?_
              exact ⟨_, _, res1 rfl rfl, ⟨congrArg Value.bool (decide_eq_true (hxs)), rfl⟩, sub_front ⟨_, rfl⟩⟩
            · exact absurd hgood.2.1 p33

end Go.Proofs.Ytppciokaldmipaa.K
