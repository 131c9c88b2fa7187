/- Walks over the package input: frames of inputs and their check, in the program and in the reference. No condition beyond what each statement names. -/
import Derived.Test.YtppciokaldmipaaProg
import Derived.Test.YtppciokaldmipaaK5
import Derived.Test.YtppciokaldmipaaB1
import Derived.Test.YtppciokaldmipaaI1
set_option linter.unusedVariables false
set_option linter.unusedSimpArgs false
set_option maxRecDepth 100000
namespace Go.Proofs.Ytppciokaldmipaa.K
open Go.RowKit

structure Inp where
  k : Int
  x : Int
  y : Int
instance : Inhabited Inp := ⟨⟨0, 0, 0⟩⟩
instance : DecidableEq Inp := fun a b => decidable_of_iff (a.k = b.k ∧ a.x = b.x ∧ a.y = b.y) ⟨fun ⟨h1, h2, h3⟩ => by cases a; cases b; simp_all, fun h => by subst h; exact ⟨rfl, rfl, rfl⟩⟩
def encI (i : Inp) : List Value := [.int .i64 i.k, .int .i64 i.x, .int .i64 i.y]
theorem encI_len (i : Inp) : (encI i).length = 3 := rfl
theorem encI_one (l : List Inp) : ∀ c ∈ l.flatMap encI, c.oneCell' = true := by
  intro c hc; obtain ⟨i, _, h⟩ := List.mem_flatMap.1 hc; simp [encI] at h; rcases h with rfl | rfl | rfl <;> rfl
def Inp.ok (i : Inp) : Prop := okIn i.k i.x i.y
instance (i : Inp) : Decidable i.ok := by unfold Inp.ok; infer_instance
/-- Numbers that an int can be. -/
def Inp.fit (i : Inp) : Prop := inK .i64 i.k ∧ inK .i64 i.x ∧ inK .i64 i.y
/-- Is a frame one for so many players? -/
def okFr (p : Int) (l : List Inp) : Prop := 1 ≤ p ∧ p ≤ 8 ∧ (l.length : Int) = p ∧ ∀ i ∈ l, i.ok
instance (p : Int) (l : List Inp) : Decidable (okFr p l) := by unfold okFr; infer_instance
def frErr (p : Int) (l : List Inp) : Int := if okFr p l then 0 else 1
theorem frErr_bad {p : Int} {l : List Inp} (h : ¬ okFr p l) : (1 : Int) = frErr p l := by unfold frErr; rw [if_neg h]
theorem frErr_ok {p : Int} {l : List Inp} (h : okFr p l) : (0 : Int) = frErr p l := by unfold frErr; rw [if_pos h]
theorem inErr_bad {i : Inp} (h : ¬ inErr i.k i.x i.y = 0) : ¬ i.ok := by unfold inErr at h; intro h'; exact h (if_pos h')
theorem inErr_good {i : Inp} (h : inErr i.k i.x i.y = 0) : i.ok := by
  unfold inErr at h
  by_cases h' : okIn i.k i.x i.y
  · exact h'
  · rw [if_neg h'] at h; cases h
theorem inErr_one {i : Inp} (h : ¬ inErr i.k i.x i.y = 0) : inErr i.k i.x i.y = 1 := if_neg (inErr_bad h)
theorem getD_in {l : List Inp} {i : Nat} (h : i < l.length) : l.getD i default ∈ l := getD_mem h
theorem all_of {l : List Inp} (h : ∀ j, j < l.length → (l.getD j default).ok) : ∀ i ∈ l, i.ok := by
  intro i hi
  obtain ⟨j, hj, rfl⟩ := List.mem_iff_getElem.1 hi
  have := h j hj
  simpa [hj] using this
theorem all_step {l : List Inp} {k : Nat} (h : ∀ j, j < k → (l.getD j default).ok) (hk : (l.getD k default).ok) : ∀ j, j < k + 1 → (l.getD j default).ok := by
  intro j hj
  by_cases e : j = k
  · subst e; exact hk
  · exact h j (by omega)

theorem Frame_c {V : Mem} (pl : Int) (A : Option Addr) (c : Nat) (l : List Inp) (h : Cels V [] A (l.flatMap encI)) (hb : l.length ≤ 140737488355328) : CallS Try.prog 18 [.int .i64 pl, .slice A l.length c].toArray V [] (fun r L' => r = .int .i64 (frErr pl l) ∧ L' = []) := by
  refine callS Try.func18 rfl rfl (fun w0 => ?_)
  refine s_seq ?_
  refine s_region ?_
  refine o_val rfl rfl rfl (y_assign (v := (.int _ _)) rfl) ?_
  refine o_nil ?_
  refine s_seq ?_
  refine s_seq ?_
  refine s_region ?_
  refine o_val rfl rfl rfl (y_move (v := (.int _ _)) rfl) ?_
  refine o_split rfl rfl rfl (y_lss rfl rfl) (fun p1 => ?_) (fun p2 => ?_)
  · refine o_val rfl rfl rfl (y_move (v := (.bool _)) rfl) ?_
    refine o_guard_no rfl rfl rfl rfl rfl ?_
    refine o_guard_no rfl rfl rfl rfl rfl ?_
    refine o_val rfl rfl rfl (y_pick_t (v := (.bool _)) rfl rfl) ?_
    refine o_val rfl rfl rfl (y_move (v := (.bool _)) rfl) ?_
    refine o_guard_no rfl rfl rfl rfl rfl ?_
    refine o_guard_no rfl rfl rfl rfl rfl ?_
    refine o_guard_no rfl rfl rfl rfl rfl ?_
    refine o_guard_no rfl rfl rfl rfl rfl ?_
    refine o_val rfl rfl rfl (y_pick_t (v := (.bool _)) rfl rfl) ?_
    refine o_nil ?_
    refine s_then rfl ?_
    refine s_seq ?_
    refine s_region ?_
    refine o_val rfl rfl rfl (y_assign (v := (.int _ _)) rfl) ?_
    refine o_nil ?_
    refine s_ret ?_
    exact ⟨_, _, res1 rfl rfl, ⟨congrArg (Value.int .i64) (frErr_bad (by unfold okFr; omega)), rfl⟩, sub_front ⟨_, rfl⟩⟩
  · refine o_val rfl rfl rfl (y_move (v := (.bool _)) rfl) ?_
    refine o_guard_yes rfl rfl ?_
    refine o_val rfl rfl rfl (y_move (v := (.int _ _)) rfl) ?_
    refine o_guard_yes rfl rfl ?_
    refine o_split rfl rfl rfl (y_gtr rfl rfl) (fun p3 => ?_) (fun p4 => ?_)
    · refine o_val rfl rfl rfl (y_pick_f (v := (.bool _)) rfl rfl) ?_
      refine o_val rfl rfl rfl (y_move (v := (.bool _)) rfl) ?_
      refine o_guard_no rfl rfl rfl rfl rfl ?_
      refine o_guard_no rfl rfl rfl rfl rfl ?_
      refine o_guard_no rfl rfl rfl rfl rfl ?_
      refine o_guard_no rfl rfl rfl rfl rfl ?_
      refine o_val rfl rfl rfl (y_pick_t (v := (.bool _)) rfl rfl) ?_
      refine o_nil ?_
      refine s_then rfl ?_
      refine s_seq ?_
      refine s_region ?_
      refine o_val rfl rfl rfl (y_assign (v := (.int _ _)) rfl) ?_
      refine o_nil ?_
      refine s_ret ?_
      exact ⟨_, _, res1 rfl rfl, ⟨congrArg (Value.int .i64) (frErr_bad (by unfold okFr; omega)), rfl⟩, sub_front ⟨_, rfl⟩⟩
    · refine o_val rfl rfl rfl (y_pick_f (v := (.bool _)) rfl rfl) ?_
      refine o_val rfl rfl rfl (y_move (v := (.bool _)) rfl) ?_
      refine o_guard_yes rfl rfl ?_
      refine o_val rfl rfl rfl (y_move (v := (.slice _ _ _)) rfl) ?_
      refine o_guard_yes rfl rfl ?_
      refine o_val rfl rfl rfl (y_len Try.runUnderlying22 rfl) ?_
      refine o_guard_yes rfl rfl ?_
      refine o_val rfl rfl rfl (y_move (v := (.int _ _)) rfl) ?_
      refine o_guard_yes rfl rfl ?_
      refine o_split rfl rfl rfl (y_neq rfl rfl) (fun p5 => ?_) (fun p6 => ?_)
      · refine o_val rfl rfl rfl (y_pick_f (v := (.bool _)) rfl rfl) ?_
        refine o_nil ?_
        refine s_then rfl ?_
        refine s_seq ?_
        refine s_region ?_
        refine o_val rfl rfl rfl (y_assign (v := (.int _ _)) rfl) ?_
        refine o_nil ?_
        refine s_ret ?_
        exact ⟨_, _, res1 rfl rfl, ⟨congrArg (Value.int .i64) (frErr_bad (by unfold okFr; omega)), rfl⟩, sub_front ⟨_, rfl⟩⟩
      · refine o_val rfl rfl rfl (y_pick_f (v := (.bool _)) rfl rfl) ?_
        refine o_nil ?_
        refine s_else rfl ?_
        refine s_skip ?_
        refine s_seq ?_
        refine s_seq ?_
        refine s_region ?_
        refine o_val rfl rfl rfl (y_move (v := (.slice _ _ _)) rfl) ?_
        refine o_val rfl rfl rfl (y_len Try.runUnderlying22 rfl) ?_
        refine o_val rfl rfl rfl (y_move (v := (.int _ _)) rfl) ?_
        refine o_nil ?_
        refine s_block ?_
        refine s_loop (γ := Nat) (fun g => [(20, .slice A l.length c), (21, .int .i64 l.length), (22, .int .i64 g)]) (fun g => []) (fun g => g ≤ l.length ∧ ∀ j, j < g → (l.getD j default).ok) (fun g => l.length - g) (0) ?_ ⟨rfl, rfl, rfl, trivial⟩ (sub_front ⟨_, rfl⟩) ?_
        · exact ⟨Nat.zero_le _, fun j hj => absurd hj (Nat.not_lt_zero j)⟩
        · intro g _f hI
          obtain ⟨hg, hok⟩ := hI
          refine s_seq ?_
          refine s_region ?_
          refine o_val rfl rfl rfl (y_lss rfl rfl) ?_
          refine o_nil ?_
          refine s_seq ?_
          refine s_if rfl (fun h7 => ?_) (fun h8 => ?_)
          · refine s_skip ?_
            refine s_seq ?_
            refine s_block ?_
            refine s_seq ?_
            refine s_region ?_
            refine o_val rfl rfl rfl (y_indexAddr Try.runUnderlying22 Try.sizeOf24 (some_at (sz := 2) encI_len (i := 0) h (by omega)) rfl rfl (by omega)) ?_
            refine o_val rfl rfl rfl (y_loads (cs := [_, _, _]) Try.isAgg24 Try.sizeOf24 rfl (by unfold idx; rw [Option.isSome_map]; exact some_at (sz := 2) encI_len (i := 0) h (by omega)) rfl (cels_at (sz := 3) encI_len h.here (by omega))) ?_
            refine o_alloc rfl Try.zeroValue24 rfl (fun b9 => ?_)
            refine o_stores (vs := [(.int _ _), (.int _ _), (.int _ _)]) 0 rfl Try.sizeOf24 rfl rfl rfl (by simp [Value.oneCell']) (by simp) ?_
            refine o_nil ?_
            refine s_seq ?_
            refine s_region ?_
            refine o_val rfl rfl rfl (y_loads (cs := [_, _, _]) Try.isAgg24 Try.sizeOf24 rfl rfl rfl (cels_own 0 rfl rfl)) ?_
            refine o_fn 0 (d := 27) rfl Try.call15 (Check_c _ _ _ _) rfl ?_
            rintro _ _ ⟨rfl, rfl⟩
            refine o_val rfl rfl rfl (y_assign (v := (.int _ _)) rfl) ?_
            refine o_nil ?_
            refine s_seq ?_
            refine s_region ?_
            refine o_val rfl rfl rfl (y_move (v := (.int _ _)) rfl) ?_
            refine o_val rfl rfl rfl (y_neq rfl rfl) ?_
            refine o_nil ?_
            refine s_if rfl (fun h10 => ?_) (fun h11 => ?_)
            · refine s_seq ?_
              refine s_region ?_
              refine o_val rfl rfl rfl (y_move (v := (.int _ _)) rfl) ?_
              refine o_val rfl rfl rfl (y_assign (v := (.int _ _)) rfl) ?_
              refine o_nil ?_
              refine s_ret ?_
              exact ⟨_, _, res1 rfl rfl, ⟨congrArg (Value.int .i64) ((inErr_one (by assumption)).trans <| frErr_bad (fun hf => inErr_bad (by assumption) (hf.2.2.2 _ (getD_in (by omega))))), rfl⟩, sub_front ⟨_, rfl⟩⟩
            · refine s_skip ?_
              refine s_region ?_
              refine o_val rfl rfl rfl (y_add rfl rfl (by simp only [inK]; omega)) ?_
              refine o_val rfl rfl rfl (y_move (v := (.int _ _)) rfl) ?_
              refine o_nil ?_
              exact ⟨g + 1, (by first | omega | (dsimp only; omega)), ⟨by omega, all_step hok (inErr_good (Decidable.not_not.1 (by assumption)))⟩, ⟨rfl, rfl, (congrArg (Value.int _) (by omega)), trivial⟩, sub_front ⟨_, rfl⟩⟩
          · refine s_exit ?_
            refine s_seq ?_
            refine s_region ?_
            refine o_val rfl rfl rfl (y_assign (v := (.int _ _)) rfl) ?_
            refine o_nil ?_
            refine s_ret ?_
            exact ⟨_, _, res1 rfl rfl, ⟨congrArg (Value.int .i64) (frErr_ok ⟨by omega, by omega, by omega, all_of (fun j hj => hok j (by omega))⟩), rfl⟩, sub_front ⟨_, rfl⟩⟩

theorem FrameFault_c {V : Mem} (pl : Int) (A : Option Addr) (c : Nat) (l : List Inp) (h : Cels V [] A (l.flatMap encI)) (hb : l.length ≤ 140737488355328) (hw : ∀ i ∈ l, i.fit) : CallS Try.prog 19 [.int .i64 pl, .slice A l.length c].toArray V [] (fun r L' => r = .int .i64 (frErr pl l) ∧ L' = []) := by
  refine callS Try.func19 rfl rfl (fun w0 => ?_)
  refine s_seq ?_
  refine s_region ?_
  refine o_val rfl rfl rfl (y_assign (v := (.int _ _)) rfl) ?_
  refine o_nil ?_
  refine s_seq ?_
  refine s_seq ?_
  refine s_region ?_
  refine o_val rfl rfl rfl (y_move (v := (.int _ _)) rfl) ?_
  refine o_split rfl rfl rfl (y_lss rfl rfl) (fun p1 => ?_) (fun p2 => ?_)
  · refine o_val rfl rfl rfl (y_move (v := (.bool _)) rfl) ?_
    refine o_guard_no rfl rfl rfl rfl rfl ?_
    refine o_guard_no rfl rfl rfl rfl rfl ?_
    refine o_val rfl rfl rfl (y_pick_t (v := (.bool _)) rfl rfl) ?_
    refine o_val rfl rfl rfl (y_move (v := (.bool _)) rfl) ?_
    refine o_guard_no rfl rfl rfl rfl rfl ?_
    refine o_guard_no rfl rfl rfl rfl rfl ?_
    refine o_guard_no rfl rfl rfl rfl rfl ?_
    refine o_guard_no rfl rfl rfl rfl rfl ?_
    refine o_val rfl rfl rfl (y_pick_t (v := (.bool _)) rfl rfl) ?_
    refine o_nil ?_
    refine s_then rfl ?_
    refine s_seq ?_
    refine s_region ?_
    refine o_val rfl rfl rfl (y_assign (v := (.int _ _)) rfl) ?_
    refine o_nil ?_
    refine s_ret ?_
    exact ⟨_, _, res1 rfl rfl, ⟨congrArg (Value.int .i64) (frErr_bad (by unfold okFr; omega)), rfl⟩, sub_front ⟨_, rfl⟩⟩
  · refine o_val rfl rfl rfl (y_move (v := (.bool _)) rfl) ?_
    refine o_guard_yes rfl rfl ?_
    refine o_val rfl rfl rfl (y_move (v := (.int _ _)) rfl) ?_
    refine o_guard_yes rfl rfl ?_
    refine o_split rfl rfl rfl (y_gtr rfl rfl) (fun p3 => ?_) (fun p4 => ?_)
    · refine o_val rfl rfl rfl (y_pick_f (v := (.bool _)) rfl rfl) ?_
      refine o_val rfl rfl rfl (y_move (v := (.bool _)) rfl) ?_
      refine o_guard_no rfl rfl rfl rfl rfl ?_
      refine o_guard_no rfl rfl rfl rfl rfl ?_
      refine o_guard_no rfl rfl rfl rfl rfl ?_
      refine o_guard_no rfl rfl rfl rfl rfl ?_
      refine o_val rfl rfl rfl (y_pick_t (v := (.bool _)) rfl rfl) ?_
      refine o_nil ?_
      refine s_then rfl ?_
      refine s_seq ?_
      refine s_region ?_
      refine o_val rfl rfl rfl (y_assign (v := (.int _ _)) rfl) ?_
      refine o_nil ?_
      refine s_ret ?_
      exact ⟨_, _, res1 rfl rfl, ⟨congrArg (Value.int .i64) (frErr_bad (by unfold okFr; omega)), rfl⟩, sub_front ⟨_, rfl⟩⟩
    · refine o_val rfl rfl rfl (y_pick_f (v := (.bool _)) rfl rfl) ?_
      refine o_val rfl rfl rfl (y_move (v := (.bool _)) rfl) ?_
      refine o_guard_yes rfl rfl ?_
      refine o_val rfl rfl rfl (y_move (v := (.slice _ _ _)) rfl) ?_
      refine o_guard_yes rfl rfl ?_
      refine o_val rfl rfl rfl (y_len Try.runUnderlying22 rfl) ?_
      refine o_guard_yes rfl rfl ?_
      refine o_val rfl rfl rfl (y_move (v := (.int _ _)) rfl) ?_
      refine o_guard_yes rfl rfl ?_
      refine o_split rfl rfl rfl (y_neq rfl rfl) (fun p5 => ?_) (fun p6 => ?_)
      · refine o_val rfl rfl rfl (y_pick_f (v := (.bool _)) rfl rfl) ?_
        refine o_nil ?_
        refine s_then rfl ?_
        refine s_seq ?_
        refine s_region ?_
        refine o_val rfl rfl rfl (y_assign (v := (.int _ _)) rfl) ?_
        refine o_nil ?_
        refine s_ret ?_
        exact ⟨_, _, res1 rfl rfl, ⟨congrArg (Value.int .i64) (frErr_bad (by unfold okFr; omega)), rfl⟩, sub_front ⟨_, rfl⟩⟩
      · refine o_val rfl rfl rfl (y_pick_f (v := (.bool _)) rfl rfl) ?_
        refine o_nil ?_
        refine s_else rfl ?_
        refine s_skip ?_
        refine s_seq ?_
        refine s_seq ?_
        refine s_region ?_
        refine o_val rfl rfl rfl (y_move (v := (.slice _ _ _)) rfl) ?_
        refine o_val rfl rfl rfl (y_len Try.runUnderlying22 rfl) ?_
        refine o_val rfl rfl rfl (y_move (v := (.int _ _)) rfl) ?_
        refine o_nil ?_
        refine s_block ?_
        refine s_loop (γ := Nat) (fun g => [(19, .slice A l.length c), (20, .int .i64 l.length), (21, .int .i64 g)]) (fun g => []) (fun g => g ≤ l.length ∧ ∀ j, j < g → (l.getD j default).ok) (fun g => l.length - g) (0) ?_ ⟨rfl, rfl, rfl, trivial⟩ (sub_front ⟨_, rfl⟩) ?_
        · exact ⟨Nat.zero_le _, fun j hj => absurd hj (Nat.not_lt_zero j)⟩
        · intro g _f hI
          obtain ⟨hg, hok⟩ := hI
          refine s_seq ?_
          refine s_region ?_
          refine o_val rfl rfl rfl (y_lss rfl rfl) ?_
          refine o_nil ?_
          refine s_seq ?_
          refine s_if rfl (fun h7 => ?_) (fun h8 => ?_)
          · refine s_skip ?_
            refine s_seq ?_
            refine s_block ?_
            refine s_seq ?_
            refine s_region ?_
            refine o_val rfl rfl rfl (y_indexAddr Try.runUnderlying22 Try.sizeOf24 (some_at (sz := 2) encI_len (i := 0) h (by omega)) rfl rfl (by omega)) ?_
            refine o_val rfl rfl rfl (y_loads (cs := [_, _, _]) Try.isAgg24 Try.sizeOf24 rfl (by unfold idx; rw [Option.isSome_map]; exact some_at (sz := 2) encI_len (i := 0) h (by omega)) rfl (cels_at (sz := 3) encI_len h.here (by omega))) ?_
            refine o_alloc rfl Try.zeroValue24 rfl (fun b9 => ?_)
            refine o_stores (vs := [(.int _ _), (.int _ _), (.int _ _)]) 0 rfl Try.sizeOf24 rfl rfl rfl (by simp [Value.oneCell']) (by simp) ?_
            refine o_nil ?_
            refine s_seq ?_
            refine s_region ?_
            refine o_val rfl rfl rfl (y_loads (cs := [_, _, _]) Try.isAgg24 Try.sizeOf24 rfl rfl rfl (cels_own 0 rfl rfl)) ?_
            refine o_fn 0 (d := 26) rfl Try.call16 (InputFault_c _ _ _ (hw _ (getD_in (i := (g : Int).toNat) (by omega))).1 (hw _ (getD_in (i := (g : Int).toNat) (by omega))).2.1 (hw _ (getD_in (i := (g : Int).toNat) (by omega))).2.2 _) rfl ?_
            rintro _ _ ⟨rfl, rfl⟩
            refine o_val rfl rfl rfl (y_neq rfl rfl) ?_
            refine o_nil ?_
            refine s_if rfl (fun h10 => ?_) (fun h11 => ?_)
            · refine s_seq ?_
              refine s_region ?_
              refine o_val rfl rfl rfl (y_assign (v := (.int _ _)) rfl) ?_
              refine o_nil ?_
              refine s_ret ?_
              exact ⟨_, _, res1 rfl rfl, ⟨congrArg (Value.int .i64) (frErr_bad (fun hf => inErr_bad (by assumption) (hf.2.2.2 _ (getD_in (by omega))))), rfl⟩, sub_front ⟨_, rfl⟩⟩
            · refine s_skip ?_
              refine s_region ?_
              refine o_val rfl rfl rfl (y_add rfl rfl (by simp only [inK]; omega)) ?_
              refine o_val rfl rfl rfl (y_move (v := (.int _ _)) rfl) ?_
              refine o_nil ?_
              exact ⟨g + 1, (by first | omega | (dsimp only; omega)), ⟨by omega, all_step hok (inErr_good (Decidable.not_not.1 (by assumption)))⟩, ⟨rfl, rfl, (congrArg (Value.int _) (by omega)), trivial⟩, sub_front ⟨_, rfl⟩⟩
          · refine s_exit ?_
            refine s_seq ?_
            refine s_region ?_
            refine o_val rfl rfl rfl (y_assign (v := (.int _ _)) rfl) ?_
            refine o_nil ?_
            refine s_ret ?_
            exact ⟨_, _, res1 rfl rfl, ⟨congrArg (Value.int .i64) (frErr_ok ⟨by omega, by omega, by omega, all_of (fun j hj => hok j (by omega))⟩), rfl⟩, sub_front ⟨_, rfl⟩⟩

end Go.Proofs.Ytppciokaldmipaa.K
