/- Walks: the reference's search for a kind. No condition beyond what each statement names. -/
import Derived.Test.YtdgmocibjjkghaaProg
import Derived.Test.YtdgmocibjjkghaaK9
import Derived.Test.YtdgmocibjjkghaaM1
import Derived.Test.YtdgmocibjjkghaaM2
set_option linter.unusedVariables false
set_option linter.unusedSimpArgs false
set_option maxRecDepth 100000
namespace Go.Proofs.Ytdgmocibjjkghaa.K
open Go.RowKit

theorem one_str (bs : List ByteArray) : ∀ c ∈ bs.map Value.string, c.oneCell' = true := by
  intro c hc; obtain ⟨b, _, rfl⟩ := List.mem_map.1 hc; rfl
theorem strs_eq {a b : List ByteArray} (hl : a.length = b.length) (h : ∀ j, j < a.length → a.getD j ByteArray.empty = b.getD j ByteArray.empty) : a = b := by
  apply List.ext_getElem hl
  intro j h1 h2
  have h3 := h j h1
  simpa [List.getD_eq_getElem?_getD, h1, h2] using h3

theorem EqS_c {V : Mem} (A : Option Addr) (n c : Nat) (bs : List ByteArray) (h : Cels V [] A (bs.map .string)) (hn : bs.length = n) (B : Option Addr) (m d : Nat) (cs : List ByteArray) (h' : Cels V [] B (cs.map .string)) (hm : cs.length = m) (hsz : n ≤ 140737488355328) : CallS Try.prog 141 [.slice A n c, .slice B m d].toArray V [] (fun r L' => r = .bool (decide (bs = cs)) ∧ L' = []) := by
  refine callS Try.func141 rfl rfl (fun w0 => ?_)
  refine s_seq ?_
  refine s_region ?_
  refine o_val rfl rfl rfl (y_assign (v := (.bool _)) rfl) ?_
  refine o_nil ?_
  refine s_seq ?_
  refine s_seq ?_
  refine s_region ?_
  refine o_val rfl rfl rfl (y_move (v := (.slice _ _ _)) rfl) ?_
  refine o_val rfl rfl rfl (y_len Try.runUnderlying208 rfl) ?_
  refine o_val rfl rfl rfl (y_move (v := (.slice _ _ _)) rfl) ?_
  refine o_val rfl rfl rfl (y_len Try.runUnderlying208 rfl) ?_
  refine o_val rfl rfl rfl (y_neq rfl rfl) ?_
  refine o_nil ?_
  refine s_if rfl (fun h1 => ?_) (fun h2 => ?_)
  · refine s_seq ?_
    refine s_region ?_
    refine o_val rfl rfl rfl (y_assign (v := (.bool _)) rfl) ?_
    refine o_nil ?_
    refine s_ret ?_
    exact ⟨_, _, res1 rfl rfl, ⟨congrArg Value.bool (decide_eq_false (fun e => by subst e; omega)).symm, rfl⟩, sub_front ⟨_, rfl⟩⟩
  · refine s_skip ?_
    refine s_seq ?_
    refine s_seq ?_
    refine s_region ?_
    refine o_val rfl rfl rfl (y_move (v := (.slice _ _ _)) rfl) ?_
    refine o_val rfl rfl rfl (y_len Try.runUnderlying208 rfl) ?_
    refine o_val rfl rfl rfl (y_move (v := (.int _ _)) rfl) ?_
    refine o_nil ?_
    refine s_block ?_
    refine s_loop (γ := Nat) (fun g => [(0, .slice A n c), (1, .slice B m d), (12, .int .i64 n), (13, .int .i64 g)]) (fun g => []) (fun g => g ≤ n ∧ ∀ j, j < g → bs.getD j ByteArray.empty = cs.getD j ByteArray.empty) (fun g => n - g) (0) ?_ ⟨rfl, rfl, rfl, rfl, trivial⟩ (sub_front ⟨_, rfl⟩) ?_
    · exact ⟨Nat.zero_le _, fun j hj => absurd hj (Nat.not_lt_zero j)⟩
    · intro g _f hI
      obtain ⟨hg, hall⟩ := hI
      refine s_seq ?_
      refine s_region ?_
      refine o_val rfl rfl rfl (y_lss rfl rfl) ?_
      refine o_nil ?_
      refine s_seq ?_
      refine s_if rfl (fun h3 => ?_) (fun h4 => ?_)
      · refine s_skip ?_
        refine s_seq ?_
        refine s_block ?_
        refine s_seq ?_
        refine s_region ?_
        refine o_val rfl rfl rfl (y_move (v := (.int _ _)) rfl) ?_
        refine o_val rfl rfl rfl (y_assign (v := (.int _ _)) rfl) ?_
        refine o_nil ?_
        refine s_seq ?_
        refine s_quiet (by kernel_rfl) (by kernel_rfl) ?_
        refine q_val rfl rfl rfl (y_move (v := (.slice _ _ _)) rfl) ?_
        refine q_val rfl rfl rfl (y_move (v := (.int _ _)) rfl) ?_
        refine q_val rfl rfl rfl (y_index1 Try.runUnderlying208 Try.sizeOf9 (some_str (i := 0) h (by omega)) rfl rfl (by omega)) ?_
        refine q_val rfl rfl rfl (y_load Try.isAgg9 rfl (cel_str h.here (by omega))) ?_
        refine q_val rfl rfl rfl (y_move (v := (.slice _ _ _)) rfl) ?_
        refine q_val rfl rfl rfl (y_move (v := (.int _ _)) rfl) ?_
        refine q_val rfl rfl rfl (y_index1 Try.runUnderlying208 Try.sizeOf9 (some_str (i := 0) h' (by omega)) rfl rfl (by omega)) ?_
        refine q_val rfl rfl rfl (y_load Try.isAgg9 rfl (cel_str h'.here (by omega))) ?_
        refine q_val rfl rfl rfl (y_neq_str rfl rfl) ?_
        refine q_nil ?_
        refine s_if rfl (fun h5 => ?_) (fun h6 => ?_)
        · have hne := h5
          refine s_seq ?_
          refine s_region ?_
          refine o_val rfl rfl rfl (y_assign (v := (.bool _)) rfl) ?_
          refine o_nil ?_
          refine s_ret ?_
          exact ⟨_, _, res1 rfl rfl, ⟨congrArg Value.bool (decide_eq_false (fun e => by subst e; exact hne rfl)).symm, rfl⟩, sub_front ⟨_, rfl⟩⟩
        · have heq := Decidable.not_not.1 h6
          refine s_skip ?_
          refine s_region ?_
          refine o_val rfl rfl rfl (y_add rfl rfl (by simp only [inK]; omega)) ?_
          refine o_val rfl rfl rfl (y_move (v := (.int _ _)) rfl) ?_
          refine o_nil ?_
          exact ⟨g + 1, (by first | omega | (dsimp only; omega)), ⟨by omega, fun j hj => if e : j = g then by (rw [e]; exact heq) else hall j (by omega)⟩, ⟨rfl, rfl, rfl, (congrArg (Value.int _) (by omega)), trivial⟩, sub_front ⟨_, rfl⟩⟩
      · refine s_exit ?_
        refine s_seq ?_
        refine s_region ?_
        refine o_val rfl rfl rfl (y_assign (v := (.bool _)) rfl) ?_
        refine o_nil ?_
        refine s_ret ?_
        exact ⟨_, _, res1 rfl rfl, ⟨congrArg Value.bool (decide_eq_true (strs_eq (by omega) (fun j hj => hall j (by omega)))).symm, rfl⟩, sub_front ⟨_, rfl⟩⟩

/-- What the reference says of a kind with a name and fields. -/
def NamedOK (ks : List KR) (nm : ByteArray) (nms : List ByteArray) (r : Int) (ok : Bool) : Prop :=
  (FindOK ks nm (-1) ∧ r = -1 ∧ ok = true) ∨ (∃ j : Nat, j < ks.length ∧ FindOK ks nm j ∧ r = j ∧ ok = decide (names (ks.getD j default).fs = nms))
theorem named_spot {ks : List KR} {nm : ByteArray} {nms : List ByteArray} {r r' : Int} {o o' : Bool} (h : Spot ks nm nms r o) (h' : NamedOK ks nm nms r' o') : o = o' ∧ (o = true → r = r') := by
  rcases h with ⟨h1, h2, h3⟩ | ⟨j, h1, h2, h3⟩ <;> rcases h' with ⟨e1, e2, e3⟩ | ⟨i, e1, e2, e3, e4⟩
  · exact ⟨by rw [h3, e3], fun _ => by omega⟩
  · have := h1.unique e2; omega
  · have := h2.unique e1; omega
  · have e := h2.unique e2
    have e' : j = i := by omega
    subst e'
    rcases h3 with h3 | h3
    · exact ⟨by rw [h3.2.2, e4, decide_eq_true h3.1], fun _ => by omega⟩
    · exact ⟨by rw [h3.2.2, e4, decide_eq_false h3.1], fun hh => by rw [h3.2.2] at hh; cases hh⟩

theorem names_succ {fs : List FR} {i : Nat} (h : i < fs.length) : (names (fs.take i)).map Value.string ++ [Value.string (fs.getD i default).name] = (names (fs.take (i + 1))).map Value.string := by
  unfold names
  rw [List.take_add_one, List.getElem?_eq_getElem h, List.getD_eq_getElem?_getD, List.getElem?_eq_getElem h]
  simp only [Option.toList_some, List.map_append, List.map_cons, List.map_nil, Option.getD_some]

theorem Named_k0 (v0 : ByteArray) (w : World) : (Instr.buildSlice 208 1 ([(0, (.string v0))] : List (Nat × Value)).toArray).run Try.prog w = .ok (.slice (some ⟨w.heap.size, 0, none⟩) 1 1) { w with heap := w.heap.push (.cells ([.string v0] : List Value).toArray 9 (0, 0)) } := by kernel_rfl
theorem Named_c {V : Mem} (A : Option Addr) (n c : Nat) (ks : List KR) (h : Cels V [] A (ks.flatMap encK)) (hn : ks.length = n) (hb : n ≤ 140737488355328) (hK : ∀ k ∈ ks, KOK V k) (nm : ByteArray) (B : Option Addr) (m d : Nat) (nms : List ByteArray) (h' : Cels V [] B (nms.map .string)) (hm : nms.length = m) : CallS Try.prog 111 [.slice A n c, .string nm, .slice B m d].toArray V [] (fun r L' => ∃ k ok, r = .tuple #[.int .i64 k, .bool ok] ∧ NamedOK ks nm nms k ok ∧ L' = []) := by
  refine callS Try.func111 rfl rfl (fun w0 => ?_)
  refine s_seq ?_
  refine s_region ?_
  refine o_val rfl rfl rfl (y_assign (v := (.int _ _)) rfl) ?_
  refine o_val rfl rfl rfl (y_assign (v := (.bool _)) rfl) ?_
  refine o_nil ?_
  refine s_seq ?_
  refine s_seq ?_
  refine s_region ?_
  refine o_val rfl rfl rfl (y_move (v := (.slice _ _ _)) rfl) ?_
  refine o_val rfl rfl rfl (y_len Try.runUnderlying50 rfl) ?_
  refine o_val rfl rfl rfl (y_move (v := (.int _ _)) rfl) ?_
  refine o_nil ?_
  refine s_block ?_
  refine s_loop (γ := Nat) (fun g => [(1, .string nm), (2, .slice B m d), (13, .slice A n c), (14, .int .i64 n), (15, .int .i64 g)]) (fun g => []) (fun g => g ≤ n ∧ ∀ j, j < g → (ks.getD j default).name ≠ nm) (fun g => n - g) (0) ?_ ⟨rfl, rfl, rfl, rfl, rfl, trivial⟩ (sub_front ⟨_, rfl⟩) ?_
  · exact ⟨Nat.zero_le _, fun j hj => absurd hj (Nat.not_lt_zero j)⟩
  · intro g _f hI
    obtain ⟨hg, hall⟩ := hI
    refine s_seq ?_
    refine s_region ?_
    refine o_val rfl rfl rfl (y_lss rfl rfl) ?_
    refine o_nil ?_
    refine s_seq ?_
    refine s_if rfl (fun h1 => ?_) (fun h2 => ?_)
    · refine s_skip ?_
      refine s_seq ?_
      refine s_block ?_
      refine s_seq ?_
      refine s_region ?_
      refine o_val rfl rfl rfl (y_move (v := (.int _ _)) rfl) ?_
      refine o_val rfl rfl rfl (y_indexAddr Try.runUnderlying50 Try.sizeOf170 (some_at (sz := 1) encK_len (i := 0) h (by omega)) rfl rfl (by omega)) ?_
      refine o_val rfl rfl rfl (y_loads (cs := [_, _]) Try.isAgg170 Try.sizeOf170 rfl (by unfold idx; rw [Option.isSome_map]; exact some_at (sz := 1) encK_len (i := 0) h (by omega)) rfl (cels_at (sz := 2) encK_len h.here (by omega))) ?_
      refine o_alloc rfl Try.zeroValue170 rfl (fun b3 => ?_)
      refine o_val rfl rfl rfl (y_assign (v := (.int _ _)) rfl) ?_
      refine o_stores (vs := [(.string _), (.slice _ _ _)]) 0 rfl Try.sizeOf170 rfl rfl rfl (by simp [Value.oneCell']) (by simp) ?_
      refine o_nil ?_
      refine s_seq ?_
      refine s_seq ?_
      refine s_region ?_
      refine o_val rfl rfl rfl (y_field0 Try.runUnderlying170 rfl Try.sizeOf9 rfl rfl) ?_
      refine o_val rfl rfl rfl (y_load Try.isAgg9 rfl (cel_own 0 rfl rfl)) ?_
      refine o_val rfl rfl rfl (y_move (v := (.string _)) rfl) ?_
      refine o_val rfl rfl rfl (y_neq_str rfl rfl) ?_
      refine o_nil ?_
      refine s_if rfl (fun h4 => ?_) (fun h5 => ?_)
      · have hne := h4
        refine s_exit ?_
        refine s_region ?_
        refine o_val rfl rfl rfl (y_add rfl rfl (by simp only [inK]; omega)) ?_
        refine o_val rfl rfl rfl (y_move (v := (.int _ _)) rfl) ?_
        refine o_nil ?_
        exact ⟨g + 1, (by first | omega | (dsimp only; omega)), ⟨by omega, fun j hj => if e : j = g then by (rw [e]; exact hne) else hall j (by omega)⟩, ⟨rfl, rfl, rfl, rfl, (congrArg (Value.int _) (by omega)), trivial⟩, sub_front ⟨_, rfl⟩⟩
      · have heq := Decidable.not_not.1 h5
        have hx := hK (ks.getD g default) (getD_mem' (by omega))
        have hxn := hx.2.2.1
        have hx1 := hx.1
        refine s_skip ?_
        refine s_seq ?_
        refine s_region ?_
        refine o_val rfl rfl rfl (y_assign (v := (.slice _ _ _)) rfl) ?_
        refine o_nil ?_
        refine s_seq ?_
        refine s_seq ?_
        refine s_region ?_
        refine o_val rfl rfl rfl (y_field0 Try.runUnderlying170 rfl Try.sizeOf168 rfl rfl) ?_
        refine o_val rfl rfl rfl (y_load Try.isAgg168 rfl (cel_own 0 rfl rfl)) ?_
        refine o_val rfl rfl rfl (y_len Try.runUnderlying168 rfl) ?_
        refine o_val rfl rfl rfl (y_move (v := (.int _ _)) rfl) ?_
        refine o_nil ?_
        refine s_block ?_
        refine s_group ?_
        refine s_loop (γ := G1) (fun u => [(2, .slice B m d), (8, .int .i64 g), (10, .slice u.A u.i u.c), (25, .slice (ks.getD g default).A (ks.getD g default).n (ks.getD g default).c), (26, .int .i64 (ks.getD g default).n), (27, .int .i64 u.i)]) (fun u => [[(b3, .cells [.string (ks.getD g default).name, .slice (ks.getD g default).A (ks.getD g default).n (ks.getD g default).c].toArray 170 (0, 0))], u.E]) (fun u => u.i ≤ (ks.getD g default).n ∧ OS u.A u.i u.c 9 1 ((names ((ks.getD g default).fs.take u.i)).map .string) u.E) (fun u => (ks.getD g default).n - u.i) (G1.mk 0 none 0 0 []) ?_ ⟨rfl, rfl, rfl, rfl, rfl, rfl, trivial⟩ (sub_front ⟨_, rfl⟩) ?_
        · exact ⟨Nat.zero_le _, OS.nil _ _⟩
        · intro u _f hJ
          obtain ⟨hu, ho0⟩ := hJ
          refine s_seq ?_
          refine s_region ?_
          refine o_val rfl rfl rfl (y_lss rfl rfl) ?_
          refine o_nil ?_
          refine s_seq ?_
          refine s_if rfl (fun h6 => ?_) (fun h7 => ?_)
          · refine s_skip ?_
            refine s_seq ?_
            refine s_block ?_
            refine s_seq ?_
            refine s_region ?_
            refine o_val rfl rfl rfl (y_indexAddr Try.runUnderlying168 Try.sizeOf172 (some_at (sz := 2) encF_len (i := 0) hx.2.2.2 (by omega)) rfl rfl (by omega)) ?_
            refine o_val rfl rfl rfl (y_loads (cs := [_, _, _]) Try.isAgg172 Try.sizeOf172 rfl (by unfold idx; rw [Option.isSome_map]; exact some_at (sz := 2) encF_len (i := 0) hx.2.2.2 (by omega)) rfl (cels_at (sz := 3) encF_len hx.2.2.2.here (by omega))) ?_
            refine o_alloc rfl Try.zeroValue172 rfl (fun b8 => ?_)
            refine o_stores (vs := [(.string _), (.int _ _), (.int _ _)]) 2 rfl Try.sizeOf172 rfl rfl rfl (by simp [Value.oneCell']) (by simp) ?_
            refine o_nil ?_
            refine s_region ?_
            refine o_val rfl rfl rfl (y_move (v := (.slice _ _ _)) rfl) ?_
            refine o_val rfl rfl rfl (y_field0 Try.runUnderlying172 rfl Try.sizeOf9 rfl rfl) ?_
            refine o_val rfl rfl rfl (y_load Try.isAgg9 rfl (cel_own 2 rfl rfl)) ?_
            refine o_lit (vs := [(0, .string _)]) rfl rfl (Named_k0 _) (fun b9 => ?_)
            refine o_append (sz := 1) (bytes := 16) (news := [(.string _)]) 1 rfl Try.underlying208 Try.type9 rfl rfl rfl rfl rfl ho0 rfl rfl (Src.slice Try.underlying208 (cels_own 3 rfl rfl) rfl (by simp [Value.oneCell']) (by simp)) (by omega) (fun A10 c11 E12 ho13 hn14 => ?_)
            have ho15 : OS A10 (u.i + 1) c11 9 1 ((names ((ks.getD g default).fs.take (u.i + 1))).map .string) E12 := by rw [← names_succ (by omega)]; exact ho13
            clear ho13
            refine o_val rfl rfl rfl (y_assign (v := (.slice _ _ _)) rfl) ?_
            refine o_nil ?_
            refine s_region ?_
            refine o_val rfl rfl rfl (y_add rfl rfl (by simp only [inK]; omega)) ?_
            refine o_val rfl rfl rfl (y_move (v := (.int _ _)) rfl) ?_
            refine o_nil ?_
            exact ⟨G1.mk (u.i + 1) A10 0 c11 E12, (by first | omega | (dsimp only; omega)), ⟨by dsimp only; omega, ho15⟩, ⟨rfl, rfl, rfl, rfl, rfl, (congrArg (Value.int _) (by dsimp only; omega)), trivial⟩, sub_front ⟨_, rfl⟩⟩
          · refine s_exit ?_
            refine s_seq ?_
            refine s_region ?_
            refine o_val rfl rfl rfl (y_move (v := (.int _ _)) rfl) ?_
            refine o_val rfl rfl rfl (y_move (v := (.slice _ _ _)) rfl) ?_
            refine o_val rfl rfl rfl (y_move (v := (.slice _ _ _)) rfl) ?_
            refine o_fn 0 (d := 40) rfl Try.call141 (EqS_c _ _ _ (names ((ks.getD g default).fs.take u.i)) (ho0.cels (j := 1) rfl).down (by rw [names_len, List.length_take, hx.1]; omega) _ _ _ nms h'.here.down hm (by omega)) rfl ?_
            rintro _ _ ⟨rfl, rfl⟩
            refine o_val rfl rfl rfl (y_assign (v := (.int _ _)) rfl) ?_
            refine o_val rfl rfl rfl (y_assign (v := (.bool _)) rfl) ?_
            refine o_nil ?_
            refine s_ret ?_
            exact ⟨_, [], res2 rfl rfl rfl, ⟨(g : Int), _, rfl, .inr ⟨g, by omega, .inr ⟨g, rfl, by omega, heq, hall⟩, rfl, by rw [show u.i = (ks.getD g default).fs.length by omega, List.take_length]⟩, rfl⟩, sub_picks [] rfl⟩
    · refine s_exit ?_
      refine s_seq ?_
      refine s_region ?_
      refine o_val rfl rfl rfl (y_assign (v := (.int _ _)) rfl) ?_
      refine o_val rfl rfl rfl (y_assign (v := (.bool _)) rfl) ?_
      refine o_nil ?_
      refine s_ret ?_
      exact ⟨_, [], res2 rfl rfl rfl, ⟨-1, true, rfl, .inl ⟨.inl ⟨rfl, fun j hj => hall j (by omega)⟩, rfl, rfl⟩, rfl⟩, sub_picks [] rfl⟩

end Go.Proofs.Ytdgmocibjjkghaa.K
