/- Walks: lists joined; numbers as bytes; sums of bytes. No condition beyond what each statement names. -/
import Derived.Test.YtdgmocibjjkghaaProg
import Derived.Test.YtdgmocibjjkghaaK14
import Derived.Test.YtdgmocibjjkghaaB9
import Derived.Test.YtdgmocibjjkghaaN1
import Derived.Test.YtdgmocibjjkghaaN3
import Derived.Test.YtdgmocibjjkghaaN4
set_option linter.unusedVariables false
set_option linter.unusedSimpArgs false
set_option maxRecDepth 100000
namespace Go.Proofs.Ytdgmocibjjkghaa.K
open Go.RowKit

/-- A list in a list of lists. -/
def encB (f : FL) : List Value := [.slice f.A f.n f.c]
theorem encB_len (f : FL) : (encB f).length = 1 := rfl
/-- A list's numbers can be read. -/
def BlOK (V : Mem) (k : IntKind) (f : FL) : Prop := f.bs.length = f.n ∧ f.n ≤ f.c ∧ Cels V [] f.A (f.bs.map (.int k))
theorem BlOK.lift {V : Mem} {R : List Grp} {k : IntKind} {f : FL} (h : BlOK V k f) : BlOK (ext V R) k f := ⟨h.1, h.2.1, h.2.2.here.down⟩
def cat (fs : List FL) : List Int := fs.flatMap (·.bs)
theorem cat_step {fs : List FL} {k : Nat} (hk : k < fs.length) : cat (fs.take (k + 1)) = cat (fs.take k) ++ (fs.getD ((k : Nat) : Int).toNat default).bs := by
  unfold cat
  rw [List.take_add_one, List.getElem?_eq_getElem hk, Int.toNat_natCast, List.getD_eq_getElem?_getD, List.getElem?_eq_getElem hk]
  simp only [Option.toList_some, List.flatMap_append, List.flatMap_cons, List.flatMap_nil, List.append_nil, Option.getD_some]
theorem cat_le (fs : List FL) (k : Nat) : (cat (fs.take k)).length ≤ (cat fs).length := by
  conv => rhs; rw [← List.take_append_drop k fs]
  unfold cat
  rw [List.flatMap_append, List.length_append]; omega
theorem cel_B {V : Mem} {L : List Grp} {A : Option Addr} {fs : List FL} (h : Cels V L A (fs.flatMap encB)) {i : Nat} (hi : i < fs.length) : Cel V L (idx A i) (.slice (fs.getD i default).A (fs.getD i default).n (fs.getD i default).c) := by
  have h1 := (cels_at (sz := 1) encB_len h hi).cel' (i := 0) rfl
  simpa using h1
theorem some_B {V : Mem} {L : List Grp} {A : Option Addr} {fs : List FL} (h : Cels V L A (fs.flatMap encB)) (hi : 0 < fs.length) : A.isSome = true := some_at (sz := 0) encB_len (i := 0) h hi
theorem os_appI {A : Option Addr} {n c : Nat} {T : TypeId} {k : IntKind} {bs cs : List Int} {E : Grp} {m : Nat} (h : OS A n c T 1 (bs.map (.int k) ++ cs.map (.int k)) E) (hn : n = m) : OS A m c T 1 ((bs ++ cs).map (.int k)) E := by
  subst hn; rwa [List.map_append]

theorem GrowB_c {V : Mem} (m : Nat) (hb : m ≤ 140737488355328 ∧ m * 1 ≤ 140737488355328) : CallS Try.prog 114 [.slice none 0 0, .int .i64 m].toArray V [] (fun r L' => ∃ A c E, r = .slice A 0 c ∧ OS A 0 c 5 1 [] E ∧ L' = [E]) := by
  refine callS Try.func114 rfl rfl (fun w0 => ?_)
  refine s_seq ?_
  refine s_region ?_
  refine o_val rfl rfl rfl (y_assign (v := (.slice _ _ _)) rfl) ?_
  refine o_nil ?_
  refine s_seq ?_
  refine s_seq ?_
  refine s_region ?_
  refine o_val rfl rfl rfl (y_move (v := (.int _ _)) rfl) ?_
  refine o_val rfl rfl rfl (y_lss rfl rfl) ?_
  refine o_nil ?_
  refine s_if rfl (fun h1 => ?_) (fun h2 => ?_)
  · exfalso; omega
  · refine s_skip ?_
    refine s_seq ?_
    refine s_seq ?_
    refine s_region ?_
    refine o_val rfl rfl rfl (y_move (v := (.int _ _)) rfl) ?_
    refine o_val rfl rfl rfl (y_move (v := (.slice _ _ _)) rfl) ?_
    refine o_val rfl rfl rfl (y_cap Try.runUnderlying29 rfl) ?_
    refine o_val rfl rfl rfl (y_move (v := (.slice _ _ _)) rfl) ?_
    refine o_val rfl rfl rfl (y_len Try.runUnderlying29 rfl) ?_
    refine o_val rfl rfl rfl (y_sub rfl rfl (by simp only [inK]; omega)) ?_
    refine o_val rfl rfl rfl (y_sub rfl rfl (by simp only [inK]; omega)) ?_
    refine o_val rfl rfl rfl (y_assign (v := (.int _ _)) rfl) ?_
    refine o_nil ?_
    refine s_seq ?_
    refine s_region ?_
    refine o_val rfl rfl rfl (y_move (v := (.int _ _)) rfl) ?_
    refine o_val rfl rfl rfl (y_gtr rfl rfl) ?_
    refine o_nil ?_
    refine s_forget [(0, (.slice _ _ _)), (1, (.int _ _)), (4, (.slice _ _ _)), (16, (.bool _))] ⟨rfl, rfl, rfl, rfl, trivial⟩ (fun _f => ?_)
    refine s_if rfl (fun h3 => ?_) (fun h4 => ?_)
    · refine s_region ?_
      refine o_val rfl rfl rfl (y_move (v := (.slice _ _ _)) rfl) ?_
      refine o_val rfl rfl rfl (y_move (v := (.slice _ _ _)) rfl) ?_
      refine o_val rfl rfl rfl (y_cap Try.runUnderlying29 rfl) ?_
      refine o_val rfl rfl rfl (y_cut_hi Try.runUnderlying29 Try.sizeOf5 rfl rfl (by omega)) ?_
      refine o_val rfl rfl rfl (y_move (v := (.int _ _)) rfl) ?_
      refine o_append_zeros (sz := 1) (bytes := 1) (m := m) rfl Try.underlying29 Try.type5 rfl rfl rfl rfl Try.underlying3 rfl rfl (by omega) (by decide) (by omega) (fun A5 c6 E7 ho8 => ?_)
      refine o_val rfl rfl rfl (y_move (v := (.slice _ _ _)) rfl) ?_
      refine o_val rfl rfl rfl (y_len Try.runUnderlying29 rfl) ?_
      refine o_val rfl rfl rfl (y_cut_hi Try.runUnderlying29 Try.sizeOf5 rfl rfl (by omega)) ?_
      refine o_val rfl rfl rfl (y_assign (v := (.slice _ _ _)) rfl) ?_
      refine o_nil ?_
      refine s_seq ?_
      refine s_region ?_
      refine o_val rfl rfl rfl (y_move (v := (.slice _ _ _)) rfl) ?_
      refine o_val rfl rfl rfl (y_assign (v := (.slice _ _ _)) rfl) ?_
      refine o_nil ?_
      refine s_ret ?_
      exact ⟨_, _, res1 rfl rfl, ⟨_, _, _, rfl, ho8.trunc, rfl⟩, sub_front ⟨_, rfl⟩⟩
    · refine s_skip ?_
      refine s_seq ?_
      refine s_region ?_
      refine o_val rfl rfl rfl (y_move (v := (.slice _ _ _)) rfl) ?_
      refine o_val rfl rfl rfl (y_assign (v := (.slice _ _ _)) rfl) ?_
      refine o_nil ?_
      refine s_ret ?_
      exact ⟨_, [[]], res1 rfl rfl, ⟨none, 0, [], rfl, OS.nil _ _, rfl⟩, sub_empty⟩

theorem ConcatB_c {V : Mem} (A : Option Addr) (n c : Nat) (fs : List FL) (h : Cels V [] A (fs.flatMap encB)) (hn : fs.length = n) (hb : n ≤ 140737488355328) (hf : ∀ f ∈ fs, BlOK V .u8 f) (ht : (cat fs).length ≤ 140737488355328 ∧ (cat fs).length * 1 ≤ 140737488355328) : CallS Try.prog 76 [.slice A n c].toArray V [] (fun r L' => ∃ (B : Option Addr) (e : Nat) (E : Grp), r = .slice B (cat fs).length e ∧ OS B (cat fs).length e 5 1 ((cat fs).map (.int .u8)) E ∧ L' = [E]) := by
  refine callS Try.func76 rfl rfl (fun w0 => ?_)
  refine s_seq ?_
  refine s_region ?_
  refine o_val rfl rfl rfl (y_assign (v := (.slice _ _ _)) rfl) ?_
  refine o_nil ?_
  refine s_seq ?_
  refine s_region ?_
  refine o_val rfl rfl rfl (y_assign (v := (.int _ _)) rfl) ?_
  refine o_nil ?_
  refine s_seq ?_
  refine s_seq ?_
  refine s_region ?_
  refine o_val rfl rfl rfl (y_move (v := (.slice _ _ _)) rfl) ?_
  refine o_val rfl rfl rfl (y_len Try.runUnderlying60 rfl) ?_
  refine o_val rfl rfl rfl (y_move (v := (.int _ _)) rfl) ?_
  refine o_nil ?_
  refine s_block ?_
  refine s_loop (γ := Nat) (fun g => [(0, .slice A n c), (3, .int .i64 ((cat (fs.take g)).length : Nat)), (9, .slice A n c), (10, .int .i64 n), (11, .int .i64 g)]) (fun g => []) (fun g => g ≤ n) (fun g => n - g) (0) ?_ ⟨rfl, rfl, rfl, rfl, rfl, trivial⟩ (sub_front ⟨_, rfl⟩) ?_
  · exact Nat.zero_le _
  · intro g _f hI
    have hg := hI
    refine s_seq ?_
    refine s_region ?_
    refine o_val rfl rfl rfl (y_lss rfl rfl) ?_
    refine o_nil ?_
    refine s_seq ?_
    refine s_if rfl (fun h1 => ?_) (fun h2 => ?_)
    · refine s_skip ?_
      refine s_seq ?_
      refine s_block ?_
      refine s_seq ?_
      refine s_region ?_
      refine o_val rfl rfl rfl (y_index1 Try.runUnderlying60 Try.sizeOf29 (some_B h (by omega)) rfl rfl (by omega)) ?_
      refine o_val rfl rfl rfl (y_load Try.isAgg29 rfl (cel_B h.here (by omega))) ?_
      refine o_val rfl rfl rfl (y_assign (v := (.slice _ _ _)) rfl) ?_
      refine o_nil ?_
      refine s_seq ?_
      refine s_region ?_
      have hct := cat_step (fs := fs) (k := g) (by omega)
      have hcl := cat_le fs (g + 1)
      rw [hct, List.length_append] at hcl
      have hff := hf _ (getD_memF (ss := fs) (k := g) (by omega))
      have hfl : (fs.getD ((g : Nat) : Int).toNat default).bs.length = (fs.getD ((g : Nat) : Int).toNat default).n := hff.1
      refine o_val rfl rfl rfl (y_move (v := (.int _ _)) rfl) ?_
      refine o_val rfl rfl rfl (y_move (v := (.slice _ _ _)) rfl) ?_
      refine o_val rfl rfl rfl (y_len Try.runUnderlying29 rfl) ?_
      refine o_val rfl rfl rfl (y_add rfl rfl (by simp only [inK]; omega)) ?_
      refine o_val rfl rfl rfl (y_assign (v := (.int _ _)) rfl) ?_
      refine o_nil ?_
      refine s_seq ?_
      refine s_region ?_
      refine o_val rfl rfl rfl (y_move (v := (.int _ _)) rfl) ?_
      refine o_val rfl rfl rfl (y_lss rfl rfl) ?_
      refine o_nil ?_
      refine s_if rfl (fun h3 => ?_) (fun h4 => ?_)
      · exfalso; omega
      · refine s_skip ?_
        refine s_region ?_
        refine o_val rfl rfl rfl (y_add rfl rfl (by simp only [inK]; omega)) ?_
        refine o_val rfl rfl rfl (y_move (v := (.int _ _)) rfl) ?_
        refine o_nil ?_
        exact ⟨g + 1, (by first | omega | (dsimp only; omega)), (by omega), ⟨rfl, (congrArg (Value.int .i64) (by rw [hct, List.length_append]; omega)), rfl, rfl, (congrArg (Value.int .i64) (by omega)), trivial⟩, sub_front ⟨_, rfl⟩⟩
    · refine s_exit ?_
      refine s_seq ?_
      refine s_region ?_
      have hgn : g = n := by omega
      rw [hgn, List.take_of_length_le (by omega)]
      refine o_val rfl rfl rfl (y_move (v := (.int _ _)) rfl) ?_
      refine o_fn 0 (d := 24) rfl Try.call114 (GrowB_c (cat fs).length (by omega)) rfl ?_
      rintro _ _ ⟨gA, gc, gE, rfl, hgo, rfl⟩
      refine o_val rfl rfl rfl (y_assign (v := (.slice _ _ _)) rfl) ?_
      refine o_nil ?_
      refine s_seq ?_
      refine s_seq ?_
      refine s_region ?_
      refine o_val rfl rfl rfl (y_move (v := (.slice _ _ _)) rfl) ?_
      refine o_val rfl rfl rfl (y_len Try.runUnderlying60 rfl) ?_
      refine o_val rfl rfl rfl (y_move (v := (.int _ _)) rfl) ?_
      refine o_nil ?_
      refine s_block ?_
      refine s_loop (γ := G1) (fun u => [(6, .slice u.A (cat (fs.take u.i)).length u.c), (25, .slice A n c), (26, .int .i64 n), (27, .int .i64 u.i)]) (fun u => [u.E]) (fun u => u.i ≤ n ∧ OS u.A (cat (fs.take u.i)).length u.c 5 1 ((cat (fs.take u.i)).map (.int .u8)) u.E) (fun u => n - u.i) (G1.mk 0 gA 0 gc gE) ?_ ⟨rfl, rfl, rfl, rfl, trivial⟩ (sub_front ⟨_, rfl⟩) ?_
      · exact ⟨Nat.zero_le _, hgo⟩
      · intro u _f hJ
        obtain ⟨hu, hou⟩ := hJ
        refine s_seq ?_
        refine s_region ?_
        refine o_val rfl rfl rfl (y_lss rfl rfl) ?_
        refine o_nil ?_
        refine s_seq ?_
        refine s_if rfl (fun h5 => ?_) (fun h6 => ?_)
        · refine s_skip ?_
          refine s_seq ?_
          refine s_block ?_
          refine s_seq ?_
          refine s_region ?_
          refine o_val rfl rfl rfl (y_index1 Try.runUnderlying60 Try.sizeOf29 (some_B h (by omega)) rfl rfl (by omega)) ?_
          refine o_val rfl rfl rfl (y_load Try.isAgg29 rfl (cel_B h.here (by omega))) ?_
          refine o_val rfl rfl rfl (y_assign (v := (.slice _ _ _)) rfl) ?_
          refine o_nil ?_
          refine s_region ?_
          have hct := cat_step (fs := fs) (k := u.i) (by omega)
          have hcl := cat_le fs (u.i + 1)
          rw [hct, List.length_append] at hcl
          have hff := hf _ (getD_memF (ss := fs) (k := u.i) (by omega))
          have hfl : (fs.getD ((u.i : Nat) : Int).toNat default).bs.length = (fs.getD ((u.i : Nat) : Int).toNat default).n := hff.1
          refine o_val rfl rfl rfl (y_move (v := (.slice _ _ _)) rfl) ?_
          refine o_val rfl rfl rfl (y_move (v := (.slice _ _ _)) rfl) ?_
          refine o_append (sz := 1) (bytes := 1) (news := ((fs.getD ((u.i : Nat) : Int).toNat default).bs).map (.int .u8)) 0 rfl Try.underlying29 Try.type5 rfl rfl rfl rfl rfl hou rfl rfl (Src.rd (sz := 0) Try.underlying29 hff.2.2.here (by rw [List.length_map]; omega) (one_int _ _)) (by omega) (fun A7 c8 E9 ho10 hn11 => ?_)
          have ho12 : OS A7 (cat (fs.take (u.i + 1))).length c8 5 1 ((cat (fs.take (u.i + 1))).map (.int .u8)) E9 := by rw [hct]; exact os_appI ho10 (by rw [List.length_append]; omega)
          clear ho10
          refine o_val rfl rfl rfl (y_assign (v := (.slice _ _ _)) rfl) ?_
          refine o_nil ?_
          refine s_norm [_] rfl ?_
          refine s_region ?_
          refine o_val rfl rfl rfl (y_add rfl rfl (by simp only [inK]; omega)) ?_
          refine o_val rfl rfl rfl (y_move (v := (.int _ _)) rfl) ?_
          refine o_nil ?_
          exact ⟨G1.mk (u.i + 1) A7 0 c8 E9, (by first | omega | (dsimp only; omega)), ⟨by dsimp only; omega, ho12⟩, ⟨(congrArg (fun x : Nat => Value.slice A7 x c8) (by dsimp only; rw [hct, List.length_append, hfl])), rfl, rfl, (congrArg (Value.int .i64) (by dsimp only; omega)), trivial⟩, sub_front ⟨_, rfl⟩⟩
        · refine s_exit ?_
          refine s_seq ?_
          refine s_region ?_
          refine o_val rfl rfl rfl (y_move (v := (.slice _ _ _)) rfl) ?_
          refine o_val rfl rfl rfl (y_assign (v := (.slice _ _ _)) rfl) ?_
          refine o_nil ?_
          refine s_ret ?_
          have hun : u.i = n := by omega
          rw [hun, List.take_of_length_le (by omega)] at hou
          exact ⟨_, _, res1 rfl (by rw [hun, List.take_of_length_le (by omega)]; rfl), ⟨_, _, _, rfl, hou, rfl⟩, sub_front ⟨_, rfl⟩⟩

end Go.Proofs.Ytdgmocibjjkghaa.K
