/- Walks: slices compared and cloned, a frame unpacked. No condition beyond what each statement names. -/
import Derived.Test.YtppciokaldmipaaProg
import Derived.Test.YtppciokaldmipaaK8
import Derived.Test.YtppciokaldmipaaB3
import Derived.Test.YtppciokaldmipaaI1
import Derived.Test.YtppciokaldmipaaI2
import Derived.Test.YtppciokaldmipaaI3
import Derived.Test.YtppciokaldmipaaI4
import Derived.Test.YtppciokaldmipaaI7
set_option linter.unusedVariables false
set_option linter.unusedSimpArgs false
set_option maxRecDepth 100000
namespace Go.Proofs.Ytppciokaldmipaa.K
open Go.RowKit

theorem eq_step {α : Type} [Inhabited α] {bs cs : List α} {k : Nat} (h : ∀ j, j < k → bs.getD j default = cs.getD j default) (hk : bs.getD k default = cs.getD k default) : ∀ j, j < k + 1 → bs.getD j default = cs.getD j default := by
  intro j hj
  by_cases e : j = k
  · rw [e]; exact hk
  · exact h j (by omega)
theorem list_ext_getD {α : Type} [Inhabited α] {bs cs : List α} (hl : bs.length = cs.length) (h : ∀ j, j < bs.length → bs.getD j default = cs.getD j default) : bs = cs := by
  apply List.ext_getElem hl
  intro j h1 h2
  have := h j h1
  simpa [List.getD_eq_getElem?_getD, h1, h2] using this

theorem run_neq_inp (a b c a' b' c' : Int) (w : World) : (binOp .neq 24 (.agg #[.int .i64 a, .int .i64 b, .int .i64 c]) (.agg #[.int .i64 a', .int .i64 b', .int .i64 c'])).run Try.prog w = .ok (.bool (decide (¬ (a = a' ∧ b = b' ∧ c = c')))) w := by
  simp [go_sem]
  by_cases h1 : a = a' <;> by_cases h2 : b = b' <;> by_cases h3 : c = c' <;> simp [h1, h2, h3]
theorem y_neq_inp {f : Frm} {V : Mem} {L : List Grp} {d : Option Tmp} {ty : TypeId} {ps : String} {af : Array Edge} {g : Option (Nat × Bool)} {x y : Operand} {yt : TypeId} {a b c a' b' c' : Int} (hx : evF f x = .agg #[.int .i64 a, .int .i64 b, .int .i64 c]) (hy : evF f y = .agg #[.int .i64 a', .int .i64 b', .int .i64 c']) :
    Yld Try.prog f V L ⟨d, .binOp .neq 24 x y yt, ty, ps, af, g⟩ (.bool (decide (¬ (a = a' ∧ b = b' ∧ c = c')))) := fun _ w _ => by
  simp only [execOp, hx, hy, Sem.run_bind, eqGuard_agg (P := Try.prog) (t := 24) (by kernel_rfl), Result.andThen_ok, run_neq_inp]
  rfl
theorem inp_eq {a b : Inp} (h : a.k = b.k ∧ a.x = b.x ∧ a.y = b.y) : a = b := by cases a; cases b; simp_all
theorem inps_dec (a b : List Inp) : True := trivial

theorem EqB_c {V : Mem} (A : Option Addr) (n c : Nat) (bs : List Int) (h : Cels V [] A ((bs).map (.int .u8))) (hn : bs.length = n) (B : Option Addr) (m d : Nat) (cs : List Int) (h' : Cels V [] B ((cs).map (.int .u8))) (hm : cs.length = m) (hsz : n ≤ 140737488355328) : CallS Try.prog 80 [.slice A n c, .slice B m d].toArray V [] (fun r L' => r = .bool (decide (bs = cs)) ∧ L' = []) := by
  refine callS Try.func80 rfl rfl (fun w0 => ?_)
  refine s_seq ?_
  refine s_region ?_
  refine o_val rfl rfl rfl (y_assign (v := (.bool _)) rfl) ?_
  refine o_nil ?_
  refine s_seq ?_
  refine s_seq ?_
  refine s_region ?_
  refine o_val rfl rfl rfl (y_move (v := (.slice _ _ _)) rfl) ?_
  refine o_val rfl rfl rfl (y_len Try.runUnderlying30 rfl) ?_
  refine o_val rfl rfl rfl (y_move (v := (.slice _ _ _)) rfl) ?_
  refine o_val rfl rfl rfl (y_len Try.runUnderlying30 rfl) ?_
  refine o_val rfl rfl rfl (y_neq rfl rfl) ?_
  refine o_nil ?_
  refine s_if rfl (fun h1 => ?_) (fun h2 => ?_)
  · refine s_seq ?_
    refine s_region ?_
    refine o_val rfl rfl rfl (y_assign (v := (.bool _)) rfl) ?_
    refine o_nil ?_
    refine s_ret ?_
    exact ⟨_, _, res1 rfl rfl, ⟨congrArg Value.bool (decide_eq_false (fun e => by subst e; omega)).symm, rfl⟩, sub_front ⟨_, rfl⟩⟩
  · refine s_skip ?_
    refine s_seq ?_
    refine s_seq ?_
    refine s_region ?_
    refine o_val rfl rfl rfl (y_move (v := (.slice _ _ _)) rfl) ?_
    refine o_val rfl rfl rfl (y_len Try.runUnderlying30 rfl) ?_
    refine o_val rfl rfl rfl (y_move (v := (.int _ _)) rfl) ?_
    refine o_nil ?_
    refine s_block ?_
    refine s_loop (γ := Nat) (fun g => [(0, .slice A n c), (1, .slice B m d), (12, .int .i64 n), (13, .int .i64 g)]) (fun g => []) (fun g => g ≤ n ∧ ∀ j, j < g → bs.getD j default = cs.getD j default) (fun g => n - g) (0) ?_ ⟨rfl, rfl, rfl, rfl, trivial⟩ (sub_front ⟨_, rfl⟩) ?_
    · exact ⟨Nat.zero_le _, fun j hj => absurd hj (Nat.not_lt_zero j)⟩
    · intro g _f hI
      obtain ⟨hg, hall⟩ := hI
      refine s_seq ?_
      refine s_region ?_
      refine o_val rfl rfl rfl (y_lss rfl rfl) ?_
      refine o_nil ?_
      refine s_seq ?_
      refine s_if rfl (fun h3 => ?_) (fun h4 => ?_)
      · refine s_skip ?_
        refine s_seq ?_
        refine s_block ?_
        refine s_seq ?_
        refine s_region ?_
        refine o_val rfl rfl rfl (y_move (v := (.int _ _)) rfl) ?_
        refine o_val rfl rfl rfl (y_assign (v := (.int _ _)) rfl) ?_
        refine o_nil ?_
        refine s_seq ?_
        refine s_quiet (by kernel_rfl) (by kernel_rfl) ?_
        refine q_val rfl rfl rfl (y_move (v := (.slice _ _ _)) rfl) ?_
        refine q_val rfl rfl rfl (y_move (v := (.int _ _)) rfl) ?_
        refine q_val rfl rfl rfl (y_index1 Try.runUnderlying30 Try.sizeOf5 (some_int (i := 0) h (by omega)) rfl rfl (by omega)) ?_
        refine q_val rfl rfl rfl (y_load Try.isAgg5 rfl (cel_int h.here (by omega))) ?_
        refine q_val rfl rfl rfl (y_move (v := (.slice _ _ _)) rfl) ?_
        refine q_val rfl rfl rfl (y_move (v := (.int _ _)) rfl) ?_
        refine q_val rfl rfl rfl (y_index1 Try.runUnderlying30 Try.sizeOf5 (some_int (i := 0) h' (by omega)) rfl rfl (by omega)) ?_
        refine q_val rfl rfl rfl (y_load Try.isAgg5 rfl (cel_int h'.here (by omega))) ?_
        refine q_val rfl rfl rfl (y_neq rfl rfl) ?_
        refine q_nil ?_
        refine s_if rfl (fun h5 => ?_) (fun h6 => ?_)
        · have hne := h5
          refine s_seq ?_
          refine s_region ?_
          refine o_val rfl rfl rfl (y_assign (v := (.bool _)) rfl) ?_
          refine o_nil ?_
          refine s_ret ?_
          exact ⟨_, _, res1 rfl rfl, ⟨congrArg Value.bool (decide_eq_false (fun e => by subst e; exact hne rfl)).symm, rfl⟩, sub_front ⟨_, rfl⟩⟩
        · have hne := h6
          refine s_skip ?_
          refine s_region ?_
          refine o_val rfl rfl rfl (y_add rfl rfl (by simp only [inK]; omega)) ?_
          refine o_val rfl rfl rfl (y_move (v := (.int _ _)) rfl) ?_
          refine o_nil ?_
          exact ⟨g + 1, (by first | omega | (dsimp only; omega)), ⟨by omega, eq_step hall (Decidable.not_not.1 hne)⟩, ⟨rfl, rfl, rfl, (congrArg (Value.int _) (by omega)), trivial⟩, sub_front ⟨_, rfl⟩⟩
      · refine s_exit ?_
        refine s_seq ?_
        refine s_region ?_
        refine o_val rfl rfl rfl (y_assign (v := (.bool _)) rfl) ?_
        refine o_nil ?_
        refine s_ret ?_
        exact ⟨_, _, res1 rfl rfl, ⟨congrArg Value.bool (decide_eq_true (list_ext_getD (by omega) (fun j hj => hall j (by omega)))).symm, rfl⟩, sub_front ⟨_, rfl⟩⟩

theorem EqI_c {V : Mem} (A : Option Addr) (n c : Nat) (bs : List Inp) (h : Cels V [] A ((bs).flatMap encI)) (hn : bs.length = n) (B : Option Addr) (m d : Nat) (cs : List Inp) (h' : Cels V [] B ((cs).flatMap encI)) (hm : cs.length = m) (hsz : n ≤ 140737488355328) : CallS Try.prog 42 [.slice A n c, .slice B m d].toArray V [] (fun r L' => r = .bool (decide (bs = cs)) ∧ L' = []) := by
  refine callS Try.func42 rfl rfl (fun w0 => ?_)
  refine s_seq ?_
  refine s_region ?_
  refine o_val rfl rfl rfl (y_assign (v := (.bool _)) rfl) ?_
  refine o_nil ?_
  refine s_seq ?_
  refine s_seq ?_
  refine s_region ?_
  refine o_val rfl rfl rfl (y_move (v := (.slice _ _ _)) rfl) ?_
  refine o_val rfl rfl rfl (y_len Try.runUnderlying22 rfl) ?_
  refine o_val rfl rfl rfl (y_move (v := (.slice _ _ _)) rfl) ?_
  refine o_val rfl rfl rfl (y_len Try.runUnderlying22 rfl) ?_
  refine o_val rfl rfl rfl (y_neq rfl rfl) ?_
  refine o_nil ?_
  refine s_if rfl (fun h1 => ?_) (fun h2 => ?_)
  · refine s_seq ?_
    refine s_region ?_
    refine o_val rfl rfl rfl (y_assign (v := (.bool _)) rfl) ?_
    refine o_nil ?_
    refine s_ret ?_
    exact ⟨_, _, res1 rfl rfl, ⟨congrArg Value.bool (decide_eq_false (fun e => by subst e; omega)).symm, rfl⟩, sub_front ⟨_, rfl⟩⟩
  · refine s_skip ?_
    refine s_seq ?_
    refine s_seq ?_
    refine s_region ?_
    refine o_val rfl rfl rfl (y_move (v := (.slice _ _ _)) rfl) ?_
    refine o_val rfl rfl rfl (y_len Try.runUnderlying22 rfl) ?_
    refine o_val rfl rfl rfl (y_move (v := (.int _ _)) rfl) ?_
    refine o_nil ?_
    refine s_block ?_
    refine s_loop (γ := Nat) (fun g => [(0, .slice A n c), (1, .slice B m d), (12, .int .i64 n), (13, .int .i64 g)]) (fun g => []) (fun g => g ≤ n ∧ ∀ j, j < g → bs.getD j default = cs.getD j default) (fun g => n - g) (0) ?_ ⟨rfl, rfl, rfl, rfl, trivial⟩ (sub_front ⟨_, rfl⟩) ?_
    · exact ⟨Nat.zero_le _, fun j hj => absurd hj (Nat.not_lt_zero j)⟩
    · intro g _f hI
      obtain ⟨hg, hall⟩ := hI
      refine s_seq ?_
      refine s_region ?_
      refine o_val rfl rfl rfl (y_lss rfl rfl) ?_
      refine o_nil ?_
      refine s_seq ?_
      refine s_if rfl (fun h3 => ?_) (fun h4 => ?_)
      · refine s_skip ?_
        refine s_seq ?_
        refine s_block ?_
        refine s_seq ?_
        refine s_region ?_
        refine o_val rfl rfl rfl (y_move (v := (.int _ _)) rfl) ?_
        refine o_val rfl rfl rfl (y_assign (v := (.int _ _)) rfl) ?_
        refine o_nil ?_
        refine s_seq ?_
        refine s_quiet (by kernel_rfl) (by kernel_rfl) ?_
        refine q_val rfl rfl rfl (y_move (v := (.slice _ _ _)) rfl) ?_
        refine q_val rfl rfl rfl (y_move (v := (.int _ _)) rfl) ?_
        refine q_val rfl rfl rfl (y_indexAddr Try.runUnderlying22 Try.sizeOf24 (some_at (sz := 2) encI_len (i := 0) h (by omega)) rfl rfl (by omega)) ?_
        refine q_val rfl rfl rfl (y_loads (cs := [_, _, _]) Try.isAgg24 Try.sizeOf24 rfl (by unfold idx; rw [Option.isSome_map]; exact some_at (sz := 2) encI_len (i := 0) h (by omega)) rfl (cels_at (sz := 3) encI_len h.here (by omega))) ?_
        refine q_val rfl rfl rfl (y_move (v := (.slice _ _ _)) rfl) ?_
        refine q_val rfl rfl rfl (y_move (v := (.int _ _)) rfl) ?_
        refine q_val rfl rfl rfl (y_indexAddr Try.runUnderlying22 Try.sizeOf24 (some_at (sz := 2) encI_len (i := 0) h' (by omega)) rfl rfl (by omega)) ?_
        refine q_val rfl rfl rfl (y_loads (cs := [_, _, _]) Try.isAgg24 Try.sizeOf24 rfl (by unfold idx; rw [Option.isSome_map]; exact some_at (sz := 2) encI_len (i := 0) h' (by omega)) rfl (cels_at (sz := 3) encI_len h'.here (by omega))) ?_
        refine q_val rfl rfl rfl (y_neq_inp rfl rfl) ?_
        refine q_nil ?_
        refine s_if rfl (fun h5 => ?_) (fun h6 => ?_)
        · have hne := h5
          refine s_seq ?_
          refine s_region ?_
          refine o_val rfl rfl rfl (y_assign (v := (.bool _)) rfl) ?_
          refine o_nil ?_
          refine s_ret ?_
          exact ⟨_, _, res1 rfl rfl, ⟨congrArg Value.bool (decide_eq_false (fun e => by subst e; exact hne ⟨rfl, rfl, rfl⟩)).symm, rfl⟩, sub_front ⟨_, rfl⟩⟩
        · have hne := h6
          refine s_skip ?_
          refine s_region ?_
          refine o_val rfl rfl rfl (y_add rfl rfl (by simp only [inK]; omega)) ?_
          refine o_val rfl rfl rfl (y_move (v := (.int _ _)) rfl) ?_
          refine o_nil ?_
          exact ⟨g + 1, (by first | omega | (dsimp only; omega)), ⟨by omega, eq_step hall (inp_eq (Decidable.not_not.1 hne))⟩, ⟨rfl, rfl, rfl, (congrArg (Value.int _) (by omega)), trivial⟩, sub_front ⟨_, rfl⟩⟩
      · refine s_exit ?_
        refine s_seq ?_
        refine s_region ?_
        refine o_val rfl rfl rfl (y_assign (v := (.bool _)) rfl) ?_
        refine o_nil ?_
        refine s_ret ?_
        exact ⟨_, _, res1 rfl rfl, ⟨congrArg Value.bool (decide_eq_true (list_ext_getD (by omega) (fun j hj => hall j (by omega)))).symm, rfl⟩, sub_front ⟨_, rfl⟩⟩

theorem NewR_k0 (v0A : Option Addr) (v0n : Nat) (v0c : Nat) (w : World) : (Instr.build 169 ([(0, (.slice v0A v0n v0c))] : List (Nat × Value)).toArray).run Try.prog w = .ok (.agg #[.slice v0A v0n v0c, .int .i64 0]) w := by kernel_rfl
theorem NewR_c {V : Mem} (A : Option Addr) (n c : Nat) (bs : List Int) (h : Cels V [] A (bs.map (.int .u8))) (hn : bs.length = n) (hsz : n ≤ 140737488355328) : CallS Try.prog 78 [.slice A n c].toArray V []
    (fun r L' => ∃ rb B e G, r = .pointer (some ⟨rb, 0, none⟩) ∧ OS B n e 5 1 (bs.map (.int .u8)) G ∧ L' = [rgrp rb B n e 0, G]) := by
  refine callS Try.func78 rfl rfl (fun w0 => ?_)
  refine s_seq ?_
  refine s_region ?_
  refine o_val rfl rfl rfl (y_assign (v := (.pointer _)) rfl) ?_
  refine o_nil ?_
  refine s_seq ?_
  refine s_region ?_
  refine o_val rfl rfl rfl (y_move (v := (.slice _ _ _)) rfl) ?_
  refine o_newgroup ?_
  refine o_append (sz := 1) (bytes := 1) (news := bs.map (.int .u8)) 0 rfl Try.underlying30 Try.type5 rfl rfl rfl rfl rfl (OS.nil 5 1) rfl rfl (Src.rd (sz := 0) Try.underlying30 h.here (by simp [hn]) (one_int _ _)) (by omega) (fun A2 c3 E4 ho5 hn6 => ?_)
  have ho7 : OS A2 n c3 5 1 (bs.map (.int .u8)) E4 := by simpa using ho5
  clear ho5
  refine o_val rfl rfl rfl (y_build (vs := [(0, .slice _ _ _)]) rfl (NewR_k0 _ _ _)) ?_
  refine o_box (v := (.agg #[(.slice _ _ _), (.int _ _)])) rfl rfl rfl (fun b8 => ?_)
  refine o_val rfl rfl rfl (y_assign (v := (.pointer _)) rfl) ?_
  refine o_nil ?_
  refine s_ret ?_
  have e0 : (0 + n : Nat) = n := Nat.zero_add n
  exact ⟨_, [rgrp b8 A2 n c3 0, E4], res1 rfl rfl, ⟨_, _, _, _, rfl, ho7, rfl⟩, (by rw [e0]; exact sub_picks [1, 0] rfl)⟩

/-- What Unpack answers. -/
def upOK (l : List Inp) (bs : List Int) (xs : List Inp) (er : Int) : Prop :=
  (¬ okFr l.length l ∧ er = 1 ∧ xs = []) ∨ (okFr l.length l ∧ unTo bs (8 * bs.length) l l.length = none ∧ er = 14 ∧ xs = []) ∨
  (okFr l.length l ∧ ∃ ys p, unTo bs (8 * bs.length) l l.length = some (ys, p) ∧ ((Wr bs (packTo l ys l.length) ∧ er = 0 ∧ xs = ys) ∨ (¬ Wr bs (packTo l ys l.length) ∧ er = 3 ∧ xs = [])))
theorem inp_map (xs : List Inp) (x : Inp) : xs.flatMap encI ++ [.int .i64 x.k, .int .i64 x.x, .int .i64 x.y] = (xs ++ [x]).flatMap encI := by simp [encI]
theorem one_fail {bs : List Int} {N p : Nat} {y x : Inp} {er : Int} {p' : Nat} (h : oneOK bs N p y x er p') (he : ¬ er = 0) : oneF bs N p y = none := h.2.elim (fun h => h.2) (fun h => absurd h.1 he)
theorem one_good {bs : List Int} {N p : Nat} {y x : Inp} {er : Int} {p' : Nat} (h : oneOK bs N p y x er p') (he : ¬ ¬ er = 0) : oneF bs N p y = some (x, p') := h.2.elim (fun h => absurd (by rw [h.1]; decide) he) (fun h => h.2)

theorem Unpack_k0 (v0x0 : Int) (v0x1 : Int) (v0x2 : Int) (w : World) : (Instr.buildSlice 22 1 ([(0, (.agg #[(.int .i64 v0x0), (.int .i64 v0x1), (.int .i64 v0x2)]))] : List (Nat × Value)).toArray).run Try.prog w = .ok (.slice (some ⟨w.heap.size, 0, none⟩) 1 1) { w with heap := w.heap.push (.cells ([.int .i64 v0x0, .int .i64 v0x1, .int .i64 v0x2] : List Value).toArray 24 (0, 0)) } := by kernel_rfl
theorem Unpack_c {V : Mem} (A : Option Addr) (c : Nat) (l : List Inp) (h : Cels V [] A (l.flatMap encI)) (hb : l.length ≤ 140737488355328) (B : Option Addr) (n d : Nat) (bs : List Int) (h' : Cels V [] B (bs.map (.int .u8))) (hn : bs.length = n) (hbd : ∀ b ∈ bs, 0 ≤ b ∧ b ≤ 255) (hsz : n ≤ 140737488355328) :
    CallS Try.prog 40 [.slice A l.length c, .slice B n d].toArray V [] (fun r L' => ∃ R m e xs G er, r = .tuple #[.slice R m e, .int .i64 er] ∧ OS R m e 24 3 (xs.flatMap encI) G ∧ upOK l bs xs er ∧ L' = [G]) := by
  refine callS Try.func40 rfl rfl (fun w0 => ?_)
  refine s_seq ?_
  refine s_region ?_
  refine o_val rfl rfl rfl (y_assign (v := (.slice _ _ _)) rfl) ?_
  refine o_val rfl rfl rfl (y_assign (v := (.int _ _)) rfl) ?_
  refine o_nil ?_
  refine s_seq ?_
  refine s_seq ?_
  refine s_region ?_
  refine o_val rfl rfl rfl (y_move (v := (.slice _ _ _)) rfl) ?_
  refine o_val rfl rfl rfl (y_len Try.runUnderlying22 rfl) ?_
  refine o_val rfl rfl rfl (y_move (v := (.slice _ _ _)) rfl) ?_
  refine o_fn 0 (d := 18) rfl Try.call18 (Frame_c _ _ _ l h.here.down hb) rfl ?_
  rintro _ _ ⟨rfl, rfl⟩
  refine o_val rfl rfl rfl (y_assign (v := (.int _ _)) rfl) ?_
  refine o_nil ?_
  refine s_seq ?_
  refine s_region ?_
  refine o_val rfl rfl rfl (y_move (v := (.int _ _)) rfl) ?_
  refine o_val rfl rfl rfl (y_neq rfl rfl) ?_
  refine o_nil ?_
  refine s_if rfl (fun h1 => ?_) (fun h2 => ?_)
  · have hbad := h1
    refine s_seq ?_
    refine s_region ?_
    refine o_val rfl rfl rfl (y_move (v := (.int _ _)) rfl) ?_
    refine o_val rfl rfl rfl (y_assign (v := (.slice _ _ _)) rfl) ?_
    refine o_val rfl rfl rfl (y_assign (v := (.int _ _)) rfl) ?_
    refine o_nil ?_
    refine s_ret ?_
    have e1 : frErr l.length l = 1 := frErr_nz hbad
    exact ⟨_, [[]], res2 rfl rfl rfl, ⟨none, 0, 0, [], [], _, rfl, OS.nil _ _, .inl ⟨fun hh => hbad (frErr_ok hh).symm, e1, rfl⟩, rfl⟩, sub_none⟩
  · have hf := frErr_z (Decidable.not_not.1 h2)
    have hbo := hf.2.2.2
    have hl8 := hf.2.1
    refine s_skip ?_
    refine s_seq ?_
    refine s_region ?_
    refine o_val rfl rfl rfl (y_move (v := (.slice _ _ _)) rfl) ?_
    refine o_fn 0 (d := 23) rfl Try.call78 (NewR_c _ n _ bs h'.here.down hn hsz) rfl ?_
    rintro _ _ ⟨rb, RB, re, RG, rfl, hRG, rfl⟩
    refine o_val rfl rfl rfl (y_assign (v := (.pointer _)) rfl) ?_
    refine o_nil ?_
    refine s_seq ?_
    refine s_region ?_
    refine o_val rfl rfl rfl (y_assign (v := (.slice _ _ _)) rfl) ?_
    refine o_nil ?_
    refine s_seq ?_
    refine s_seq ?_
    refine s_region ?_
    refine o_val rfl rfl rfl (y_move (v := (.slice _ _ _)) rfl) ?_
    refine o_val rfl rfl rfl (y_len Try.runUnderlying22 rfl) ?_
    refine o_val rfl rfl rfl (y_move (v := (.int _ _)) rfl) ?_
    refine o_nil ?_
    refine s_block ?_
    refine s_group ?_
    refine s_loop (γ := G1 × List Inp × Nat) (fun g => [(0, .slice A l.length c), (1, .slice B n d), (7, .pointer (some ⟨rb, 0, none⟩)), (8, .slice g.1.A g.2.1.length g.1.c), (24, .slice A l.length c), (25, .int .i64 l.length), (26, .int .i64 g.1.i)]) (fun g => [rgrp rb RB n re g.2.2, RG, g.1.E]) (fun g => g.1.i ≤ l.length ∧ OS g.1.A g.2.1.length g.1.c 24 3 (g.2.1.flatMap encI) g.1.E ∧ unTo bs (8 * n) l g.1.i = some (g.2.1, g.2.2)) (fun g => l.length - g.1.i) ((G1.mk 0 none 0 0 [], [], 0)) ?_ ⟨rfl, rfl, rfl, rfl, rfl, rfl, rfl, trivial⟩ (sub_front ⟨_, rfl⟩) ?_
    · exact ⟨Nat.zero_le _, OS.nil _ _, rfl⟩
    · intro g _f hI
      obtain ⟨hi, ho, hun⟩ := hI
      obtain ⟨hxl, hgp, hxo⟩ := unTo_ok hbo hi hun
      refine s_seq ?_
      refine s_region ?_
      refine o_val rfl rfl rfl (y_lss rfl rfl) ?_
      refine o_nil ?_
      refine s_seq ?_
      refine s_if rfl (fun h3 => ?_) (fun h4 => ?_)
      · refine s_skip ?_
        refine s_seq ?_
        refine s_block ?_
        refine s_seq ?_
        refine s_region ?_
        refine o_val rfl rfl rfl (y_indexAddr Try.runUnderlying22 Try.sizeOf24 (some_at (sz := 2) encI_len (i := 0) h (by omega)) rfl rfl (by omega)) ?_
        refine o_val rfl rfl rfl (y_loads (cs := [_, _, _]) Try.isAgg24 Try.sizeOf24 rfl (by unfold idx; rw [Option.isSome_map]; exact some_at (sz := 2) encI_len (i := 0) h (by omega)) rfl (cels_at (sz := 3) encI_len h.here (by omega))) ?_
        refine o_alloc rfl Try.zeroValue24 rfl (fun b5 => ?_)
        refine o_stores (vs := [(.int _ _), (.int _ _), (.int _ _)]) 3 rfl Try.sizeOf24 rfl rfl rfl (by simp [Value.oneCell']) (by simp) ?_
        refine o_nil ?_
        refine s_seq ?_
        refine s_region ?_
        refine o_val rfl rfl rfl (y_move (v := (.pointer _)) rfl) ?_
        refine o_val rfl rfl rfl (y_loads (cs := [_, _, _]) Try.isAgg24 Try.sizeOf24 rfl rfl rfl (cels_own 3 rfl rfl)) ?_
        refine o_fn 1 (d := 33) rfl Try.call79 (one_c _ RB n re g.2.2 bs (hRG.cels (j := 0) rfl).down hn hbd hgp hsz (l.getD (g.1.i : Int).toNat default) (hbo _ (getD_in (by omega)))) rfl ?_
        rintro _ _ ⟨x, er, p', rfl, hone, rfl⟩
        refine o_val rfl rfl rfl (y_move (v := (.tuple #[(.agg #[(.int _ _), (.int _ _), (.int _ _)]), (.int _ _)])) rfl) ?_
        refine o_val rfl rfl rfl (y_extract (v := (.agg #[(.int _ _), (.int _ _), (.int _ _)])) rfl rfl) ?_
        refine o_val rfl rfl rfl (y_extract (v := (.int _ _)) rfl rfl) ?_
        refine o_alloc rfl Try.zeroValue24 rfl (fun b6 => ?_)
        refine o_stores (vs := [(.int _ _), (.int _ _), (.int _ _)]) 4 rfl Try.sizeOf24 rfl rfl rfl (by simp [Value.oneCell']) (by simp) ?_
        refine o_val rfl rfl rfl (y_assign (v := (.int _ _)) rfl) ?_
        refine o_nil ?_
        refine s_seq ?_
        refine s_seq ?_
        refine s_region ?_
        refine o_val rfl rfl rfl (y_move (v := (.int _ _)) rfl) ?_
        refine o_val rfl rfl rfl (y_neq rfl rfl) ?_
        refine o_nil ?_
        refine s_if rfl (fun h7 => ?_) (fun h8 => ?_)
        · have her := h7
          refine s_seq ?_
          refine s_region ?_
          refine o_val rfl rfl rfl (y_assign (v := (.slice _ _ _)) rfl) ?_
          refine o_val rfl rfl rfl (y_assign (v := (.int _ _)) rfl) ?_
          refine o_nil ?_
          refine s_ret ?_
          have hnone := unTo_none (unTo_fail hun (one_fail hone her)) (show g.1.i + 1 ≤ l.length by omega)
          exact ⟨_, [[]], res2 rfl rfl rfl, ⟨none, 0, 0, [], [], _, rfl, OS.nil _ _, .inr (.inl ⟨hf, by rw [hn]; exact hnone, rfl, rfl⟩), rfl⟩, sub_none⟩
        · have her := h8
          refine s_skip ?_
          refine s_region ?_
          refine o_val rfl rfl rfl (y_move (v := (.slice _ _ _)) rfl) ?_
          refine o_val rfl rfl rfl (y_loads (cs := [_, _, _]) Try.isAgg24 Try.sizeOf24 rfl rfl rfl (cels_own 4 rfl rfl)) ?_
          refine o_lit (vs := [(0, .agg #[.int _ _, .int _ _, .int _ _])]) rfl rfl (Unpack_k0 _ _ _) (fun b9 => ?_)
          refine o_append (sz := 3) (bytes := 24) (news := [(.int _ _), (.int _ _), (.int _ _)]) 2 rfl Try.underlying22 Try.type24 rfl rfl rfl rfl rfl ho rfl rfl (Src.slice Try.underlying22 (cels_own 5 rfl rfl) rfl (by simp [Value.oneCell']) (by simp)) (by omega) (fun A10 c11 E12 ho13 hn14 => ?_)
          have ho15 : OS A10 (g.2.1 ++ [x]).length c11 24 3 ((g.2.1 ++ [x]).flatMap encI) E12 := by rw [← inp_map, show (g.2.1 ++ [x]).length = g.2.1.length + 1 by simp]; exact ho13
          clear ho13
          refine o_val rfl rfl rfl (y_assign (v := (.slice _ _ _)) rfl) ?_
          refine o_nil ?_
          refine s_region ?_
          refine o_val rfl rfl rfl (y_add rfl rfl (by simp only [inK]; omega)) ?_
          refine o_val rfl rfl rfl (y_move (v := (.int _ _)) rfl) ?_
          refine o_nil ?_
          exact ⟨(G1.mk (g.1.i + 1) A10 0 c11 E12, g.2.1 ++ [x], p'), (by first | omega | (dsimp only; omega)), ⟨by dsimp only; omega, ho15, unTo_step hun (one_good hone her)⟩, ⟨rfl, rfl, rfl, (congrArg (fun k => Value.slice _ k _) (by simp)), rfl, rfl, (congrArg (Value.int _) (by dsimp only; omega)), trivial⟩, sub_picks [0, 0, 0] rfl⟩
      · refine s_exit ?_
        refine s_seq ?_
        refine s_region ?_
        have hin : g.1.i = l.length := by omega
        rw [hin] at hun hxl
        have hf2 : okFr l.length g.2.1 := ⟨hf.1, hf.2.1, by omega, hxo⟩
        refine o_val rfl rfl rfl (y_move (v := (.slice _ _ _)) rfl) ?_
        refine o_val rfl rfl rfl (y_move (v := (.slice _ _ _)) rfl) ?_
        refine o_fn 0 (d := 46) rfl Try.call20 (Pack_ok _ _ l h.here.down hb _ _ g.2.1 (ho.cels (j := 2) rfl).down (by omega) hf hf2) rfl ?_
        rintro _ _ ⟨PA, pn, pc, pbs, PG, rfl, hPo, hPW, rfl⟩
        refine o_val rfl rfl rfl (y_move (v := (.tuple #[(.slice _ _ _), (.int _ _)])) rfl) ?_
        refine o_val rfl rfl rfl (y_extract (v := (.slice _ _ _)) rfl rfl) ?_
        refine o_val rfl rfl rfl (y_extract (v := (.int _ _)) rfl rfl) ?_
        refine o_val rfl rfl rfl (y_assign (v := (.slice _ _ _)) rfl) ?_
        refine o_val rfl rfl rfl (y_assign (v := (.int _ _)) rfl) ?_
        refine o_nil ?_
        refine s_seq ?_
        refine s_seq ?_
        refine s_region ?_
        refine o_val rfl rfl rfl (y_move (v := (.int _ _)) rfl) ?_
        refine o_split rfl rfl rfl (y_neq rfl rfl) (fun p16 => ?_) (fun p17 => ?_)
        · exact absurd rfl p16
        · refine o_val rfl rfl rfl (y_move (v := (.bool _)) rfl) ?_
          refine o_guard_yes rfl rfl ?_
          refine o_val rfl rfl rfl (y_move (v := (.slice _ _ _)) rfl) ?_
          refine o_guard_yes rfl rfl ?_
          refine o_val rfl rfl rfl (y_move (v := (.slice _ _ _)) rfl) ?_
          refine o_guard_yes rfl rfl ?_
          refine o_fn 0 (d := 54) rfl Try.call80 (EqB_c _ _ _ pbs (hPo.cels (j := 0) rfl).down (by simpa using hPo.len) _ _ _ bs h'.here.down hn (by have h1 := hPW.1; have h2 := packTo_len l g.2.1 g.2.1.length; have h3 := hPo.len; simp at h3; omega)) rfl ?_
          rintro _ _ ⟨rfl, rfl⟩
          refine o_guard_yes rfl rfl ?_
          refine o_val rfl rfl rfl (y_not rfl) ?_
          refine o_val rfl rfl rfl (y_pick_f (v := (.bool _)) rfl rfl) ?_
          refine o_nil ?_
          refine s_if rfl (fun h18 => ?_) (fun h19 => ?_)
          · have heq := h18
            refine s_seq ?_
            refine s_region ?_
            refine o_val rfl rfl rfl (y_assign (v := (.slice _ _ _)) rfl) ?_
            refine o_val rfl rfl rfl (y_assign (v := (.int _ _)) rfl) ?_
            refine o_nil ?_
            refine s_ret ?_
            exact ⟨_, [[]], res2 rfl rfl rfl, ⟨none, 0, 0, [], [], _, rfl, OS.nil _ _, .inr (.inr ⟨hf, g.2.1, g.2.2, by rw [hn]; exact hun, .inr ⟨fun hW => heq (hPW.unique (by rw [hxl]; exact hW)), rfl, rfl⟩⟩), rfl⟩, sub_none⟩
          · have heq := Decidable.not_not.1 h19
            refine s_skip ?_
            refine s_seq ?_
            refine s_region ?_
            refine o_val rfl rfl rfl (y_move (v := (.slice _ _ _)) rfl) ?_
            refine o_val rfl rfl rfl (y_assign (v := (.slice _ _ _)) rfl) ?_
            refine o_val rfl rfl rfl (y_assign (v := (.int _ _)) rfl) ?_
            refine o_nil ?_
            refine s_ret ?_
            exact ⟨_, [g.1.E], res2 rfl rfl rfl, ⟨_, _, _, g.2.1, _, _, rfl, ho, .inr (.inr ⟨hf, g.2.1, g.2.2, by rw [hn]; exact hun, .inl ⟨by rw [hxl] at hPW; rw [← heq]; exact hPW, rfl, rfl⟩⟩), rfl⟩, sub_picks [3] rfl⟩

end Go.Proofs.Ytppciokaldmipaa.K
