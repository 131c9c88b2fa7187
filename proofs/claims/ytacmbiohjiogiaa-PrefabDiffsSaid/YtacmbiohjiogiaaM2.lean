/- Walks over the package bridge: kinds found by their names and fields. No condition beyond what each statement names. -/
import Derived.Test.YtacmbiohjiogiaaProg
import Derived.Test.YtacmbiohjiogiaaK9
import Derived.Test.YtacmbiohjiogiaaM1
set_option linter.unusedVariables false
set_option linter.unusedSimpArgs false
set_option maxRecDepth 100000
namespace Go.Proofs.Ytacmbiohjiogiaa.K
open Go.RowKit

def ngrp (b : Nat) (s : ByteArray) : Grp := [(b, .cells [.string s].toArray 9 (0, 0))]
theorem cel_str {V : Mem} {L : List Grp} {A : Option Addr} {bs : List ByteArray} (h : Cels V L A (bs.map .string)) {i : Nat} (hi : i < bs.length) : Cel V L (idx A i) (.string (bs.getD i ByteArray.empty)) :=
  h.cel (by simp [hi])
theorem some_str {V : Mem} {L : List Grp} {A : Option Addr} {bs : List ByteArray} (h : Cels V L A (bs.map .string)) {i : Nat} (hi : i < bs.length) : A.isSome = true := h.isSome (i := i) (by simpa using hi)

theorem find1_c {V : Mem} (k : KR) (b : Nat) (nm : ByteArray) : CallS Try.prog 190 [.agg #[.string k.name, .slice k.A k.n k.c], .pointer (some ⟨b, 0, none⟩)].toArray V [ngrp b nm] (fun r L' => r = .bool (decide (k.name = nm)) ∧ L' = [ngrp b nm]) := by
  refine callS Try.func190 rfl rfl (fun w0 => ?_)
  refine s_seq ?_
  refine s_region ?_
  refine o_box (v := (.agg #[(.string _), (.slice _ _ _)])) rfl rfl rfl (fun b1 => ?_)
  refine o_val rfl rfl rfl (y_assign (v := (.bool _)) rfl) ?_
  refine o_nil ?_
  refine s_seq ?_
  refine s_region ?_
  refine o_val rfl rfl rfl (y_field0 Try.runUnderlying58 rfl Try.sizeOf9 rfl rfl) ?_
  refine o_val rfl rfl rfl (y_load Try.isAgg9 rfl (cel_own 1 rfl rfl)) ?_
  refine o_val rfl rfl rfl (y_load Try.isAgg9 rfl (cel_own 0 rfl rfl)) ?_
  refine o_val rfl rfl rfl (y_eql_str rfl rfl) ?_
  refine o_val rfl rfl rfl (y_assign (v := (.bool _)) rfl) ?_
  refine o_nil ?_
  refine s_ret ?_
  exact ⟨_, _, res1 rfl rfl, ⟨rfl, rfl⟩, sub_front ⟨_, rfl⟩⟩

theorem IndexK_c {V : Mem} (A : Option Addr) (n c : Nat) (ks : List KR) (h : Cels V [] A (ks.flatMap encK)) (hn : ks.length = n) (hb : n ≤ 140737488355328) (b : Nat) (nm : ByteArray) : CallS Try.prog 189 [.slice A n c, .func (.func 190) #[] [.pointer (some ⟨b, 0, none⟩)].toArray].toArray V [ngrp b nm] (fun r L' => ∃ k, r = .int .i64 k ∧ FindOK ks nm k ∧ L' = [ngrp b nm]) := by
  refine callS Try.func189 rfl rfl (fun w0 => ?_)
  refine s_seq ?_
  refine s_region ?_
  refine o_val rfl rfl rfl (y_assign (v := (.int _ _)) rfl) ?_
  refine o_nil ?_
  refine s_seq ?_
  refine s_seq ?_
  refine s_region ?_
  refine o_val rfl rfl rfl (y_move (v := (.slice _ _ _)) rfl) ?_
  refine o_val rfl rfl rfl (y_len Try.runUnderlying23 rfl) ?_
  refine o_val rfl rfl rfl (y_move (v := (.int _ _)) rfl) ?_
  refine o_nil ?_
  refine s_block ?_
  refine s_loop (γ := Nat) (fun g => [(0, .slice A n c), (1, .func (.func 190) #[] [.pointer (some ⟨b, 0, none⟩)].toArray), (7, .int .i64 n), (8, .int .i64 g)]) (fun g => [ngrp b nm]) (fun g => g ≤ n ∧ ∀ j, j < g → (ks.getD j default).name ≠ nm) (fun g => n - g) (0) ?_ ⟨rfl, rfl, rfl, rfl, trivial⟩ (sub_front ⟨_, rfl⟩) ?_
  · exact ⟨Nat.zero_le _, fun j hj => absurd hj (Nat.not_lt_zero j)⟩
  · intro g _f hI
    obtain ⟨hg, hall⟩ := hI
    refine s_seq ?_
    refine s_region ?_
    refine o_val rfl rfl rfl (y_lss rfl rfl) ?_
    refine o_nil ?_
    refine s_seq ?_
    refine s_if rfl (fun h1 => ?_) (fun h2 => ?_)
    · refine s_skip ?_
      refine s_seq ?_
      refine s_block ?_
      refine s_seq ?_
      refine s_region ?_
      refine o_val rfl rfl rfl (y_move (v := (.int _ _)) rfl) ?_
      refine o_val rfl rfl rfl (y_assign (v := (.int _ _)) rfl) ?_
      refine o_nil ?_
      refine s_seq ?_
      refine s_region ?_
      refine o_val rfl rfl rfl (y_move (v := (.func _ _ _)) rfl) ?_
      refine o_val rfl rfl rfl (y_move (v := (.slice _ _ _)) rfl) ?_
      refine o_val rfl rfl rfl (y_move (v := (.int _ _)) rfl) ?_
      refine o_val rfl rfl rfl (y_indexAddr Try.runUnderlying23 Try.sizeOf58 (some_at (sz := 1) encK_len (i := 0) h (by omega)) rfl rfl (by omega)) ?_
      refine o_val rfl rfl rfl (y_loads (cs := [_, _]) Try.isAgg58 Try.sizeOf58 rfl (by unfold idx; rw [Option.isSome_map]; exact some_at (sz := 1) encK_len (i := 0) h (by omega)) rfl (cels_at (sz := 2) encK_len h.here (by omega))) ?_
      refine o_fnv' 1 (d := 16) rfl Try.call190 rfl rfl rfl (find1_c (ks.getD g default) b nm) ?_
      rintro _ _ ⟨rfl, rfl⟩
      refine o_nil ?_
      refine s_if rfl (fun h3 => ?_) (fun h4 => ?_)
      · refine s_seq ?_
        refine s_region ?_
        refine o_val rfl rfl rfl (y_move (v := (.int _ _)) rfl) ?_
        refine o_val rfl rfl rfl (y_assign (v := (.int _ _)) rfl) ?_
        refine o_nil ?_
        refine s_ret ?_
        exact ⟨_, [_], res1 rfl rfl, ⟨_, rfl, .inr ⟨g, rfl, by omega, by assumption, hall⟩, rfl⟩, sub_front ⟨_, rfl⟩⟩
      · refine s_skip ?_
        refine s_region ?_
        refine o_val rfl rfl rfl (y_add rfl rfl (by simp only [inK]; omega)) ?_
        refine o_val rfl rfl rfl (y_move (v := (.int _ _)) rfl) ?_
        refine o_nil ?_
        exact ⟨g + 1, (by first | omega | (dsimp only; omega)), ⟨by omega, fun j hj => if e : j = g then by (rw [e]; assumption) else hall j (by omega)⟩, ⟨rfl, rfl, rfl, (congrArg (Value.int _) (by omega)), trivial⟩, sub_front ⟨_, rfl⟩⟩
    · refine s_exit ?_
      refine s_seq ?_
      refine s_region ?_
      refine o_val rfl rfl rfl (y_assign (v := (.int _ _)) rfl) ?_
      refine o_nil ?_
      refine s_ret ?_
      exact ⟨_, [_], res1 rfl rfl, ⟨_, rfl, .inl ⟨rfl, fun j hj => hall j (by omega)⟩, rfl⟩, sub_front ⟨_, rfl⟩⟩

theorem find2_c {V : Mem} (f : FR) (nm : ByteArray) : CallS Try.prog 192 [.agg #[.string f.name, .int .i64 f.bits, .int .i64 f.low], .string nm].toArray V [] (fun r L' => r = .bool (decide (f.name = nm)) ∧ L' = []) := by
  refine callS Try.func192 rfl rfl (fun w0 => ?_)
  refine s_seq ?_
  refine s_region ?_
  refine o_box (v := (.agg #[(.string _), (.int _ _), (.int _ _)])) rfl rfl rfl (fun b1 => ?_)
  refine o_val rfl rfl rfl (y_assign (v := (.bool _)) rfl) ?_
  refine o_nil ?_
  refine s_seq ?_
  refine s_region ?_
  refine o_val rfl rfl rfl (y_field0 Try.runUnderlying61 rfl Try.sizeOf9 rfl rfl) ?_
  refine o_val rfl rfl rfl (y_load Try.isAgg9 rfl (cel_own 0 rfl rfl)) ?_
  refine o_val rfl rfl rfl (y_move (v := (.string _)) rfl) ?_
  refine o_val rfl rfl rfl (y_eql_str rfl rfl) ?_
  refine o_val rfl rfl rfl (y_assign (v := (.bool _)) rfl) ?_
  refine o_nil ?_
  refine s_ret ?_
  exact ⟨_, _, res1 rfl rfl, ⟨rfl, rfl⟩, sub_front ⟨_, rfl⟩⟩

/-- The names of fields. -/
def names (fs : List FR) : List ByteArray := fs.map (·.name)
theorem names_getD {fs : List FR} {j : Nat} (h : j < fs.length) : (names fs).getD j ByteArray.empty = (fs.getD j default).name := by
  unfold names; simp [List.getD_eq_getElem?_getD, h]
theorem names_len (fs : List FR) : (names fs).length = fs.length := by simp [names]
theorem names_eq {fs : List FR} {nms : List ByteArray} (hl : fs.length = nms.length) (h : ∀ j, j < fs.length → (fs.getD j default).name = nms.getD j ByteArray.empty) : names fs = nms := by
  apply List.ext_getElem (by rw [names_len, hl])
  intro j h1 h2
  have h3 := h j (by rw [names_len] at h1; exact h1)
  rw [← names_getD (by rw [names_len] at h1; exact h1)] at h3
  simpa [List.getD_eq_getElem?_getD, h1, h2] using h3

theorem EqualF_c {V : Mem} (A : Option Addr) (n c : Nat) (fs : List FR) (h : Cels V [] A (fs.flatMap encF)) (hn : fs.length = n) (hb : n ≤ 140737488355328) (B : Option Addr) (m d : Nat) (nms : List ByteArray) (h' : Cels V [] B (nms.map .string)) (hm : nms.length = m) : CallS Try.prog 191 [.slice A n c, .slice B m d, .func (.func 192) #[] #[]].toArray V [] (fun r L' => r = .bool (decide (names fs = nms)) ∧ L' = []) := by
  refine callS Try.func191 rfl rfl (fun w0 => ?_)
  refine s_seq ?_
  refine s_region ?_
  refine o_val rfl rfl rfl (y_assign (v := (.bool _)) rfl) ?_
  refine o_nil ?_
  refine s_seq ?_
  refine s_seq ?_
  refine s_region ?_
  refine o_val rfl rfl rfl (y_move (v := (.slice _ _ _)) rfl) ?_
  refine o_val rfl rfl rfl (y_len Try.runUnderlying56 rfl) ?_
  refine o_val rfl rfl rfl (y_move (v := (.slice _ _ _)) rfl) ?_
  refine o_val rfl rfl rfl (y_len Try.runUnderlying93 rfl) ?_
  refine o_val rfl rfl rfl (y_neq rfl rfl) ?_
  refine o_nil ?_
  refine s_if rfl (fun h1 => ?_) (fun h2 => ?_)
  · refine s_seq ?_
    refine s_region ?_
    refine o_val rfl rfl rfl (y_assign (v := (.bool _)) rfl) ?_
    refine o_nil ?_
    refine s_ret ?_
    exact ⟨_, _, res1 rfl rfl, ⟨congrArg Value.bool (decide_eq_false (fun e => by have := congrArg List.length e; rw [names_len] at this; omega)).symm, rfl⟩, sub_front ⟨_, rfl⟩⟩
  · refine s_skip ?_
    refine s_seq ?_
    refine s_seq ?_
    refine s_region ?_
    refine o_val rfl rfl rfl (y_move (v := (.slice _ _ _)) rfl) ?_
    refine o_val rfl rfl rfl (y_len Try.runUnderlying56 rfl) ?_
    refine o_val rfl rfl rfl (y_move (v := (.int _ _)) rfl) ?_
    refine o_nil ?_
    refine s_block ?_
    refine s_loop (γ := Nat) (fun g => [(0, .slice A n c), (1, .slice B m d), (2, .func (.func 192) #[] #[]), (15, .slice A n c), (16, .int .i64 n), (17, .int .i64 g)]) (fun g => []) (fun g => g ≤ n ∧ ∀ j, j < g → (fs.getD j default).name = nms.getD j ByteArray.empty) (fun g => n - g) (0) ?_ ⟨rfl, rfl, rfl, rfl, rfl, rfl, trivial⟩ (sub_front ⟨_, rfl⟩) ?_
    · exact ⟨Nat.zero_le _, fun j hj => absurd hj (Nat.not_lt_zero j)⟩
    · intro g _f hI
      obtain ⟨hg, hall⟩ := hI
      refine s_seq ?_
      refine s_region ?_
      refine o_val rfl rfl rfl (y_lss rfl rfl) ?_
      refine o_nil ?_
      refine s_seq ?_
      refine s_if rfl (fun h3 => ?_) (fun h4 => ?_)
      · refine s_skip ?_
        refine s_seq ?_
        refine s_block ?_
        refine s_seq ?_
        refine s_region ?_
        refine o_val rfl rfl rfl (y_move (v := (.int _ _)) rfl) ?_
        refine o_val rfl rfl rfl (y_indexAddr Try.runUnderlying56 Try.sizeOf61 (some_at (sz := 2) encF_len (i := 0) h (by omega)) rfl rfl (by omega)) ?_
        refine o_val rfl rfl rfl (y_loads (cs := [_, _, _]) Try.isAgg61 Try.sizeOf61 rfl (by unfold idx; rw [Option.isSome_map]; exact some_at (sz := 2) encF_len (i := 0) h (by omega)) rfl (cels_at (sz := 3) encF_len h.here (by omega))) ?_
        refine o_alloc rfl Try.zeroValue61 rfl (fun b5 => ?_)
        refine o_val rfl rfl rfl (y_assign (v := (.int _ _)) rfl) ?_
        refine o_stores (vs := [(.string _), (.int _ _), (.int _ _)]) 0 rfl Try.sizeOf61 rfl rfl rfl (by simp [Value.oneCell']) (by simp) ?_
        refine o_nil ?_
        refine s_seq ?_
        refine s_region ?_
        refine o_val rfl rfl rfl (y_move (v := (.slice _ _ _)) rfl) ?_
        refine o_val rfl rfl rfl (y_move (v := (.int _ _)) rfl) ?_
        refine o_val rfl rfl rfl (y_index1 Try.runUnderlying93 Try.sizeOf9 (some_str (i := 0) h' (by omega)) rfl rfl (by omega)) ?_
        refine o_val rfl rfl rfl (y_load Try.isAgg9 rfl (cel_str h'.here (by omega))) ?_
        refine o_val rfl rfl rfl (y_assign (v := (.string _)) rfl) ?_
        refine o_nil ?_
        refine s_seq ?_
        refine s_region ?_
        refine o_val rfl rfl rfl (y_move (v := (.func _ _ _)) rfl) ?_
        refine o_val rfl rfl rfl (y_loads (cs := [_, _, _]) Try.isAgg61 Try.sizeOf61 rfl rfl rfl (cels_own 0 rfl rfl)) ?_
        refine o_val rfl rfl rfl (y_move (v := (.string _)) rfl) ?_
        refine o_fnv' 0 (d := 29) rfl Try.call192 rfl rfl rfl (find2_c (fs.getD g default) (nms.getD g ByteArray.empty)) ?_
        rintro _ _ ⟨rfl, rfl⟩
        refine o_val rfl rfl rfl (y_not rfl) ?_
        refine o_nil ?_
        refine s_if rfl (fun h6 => ?_) (fun h7 => ?_)
        · have hne := h6
          refine s_seq ?_
          refine s_region ?_
          refine o_val rfl rfl rfl (y_assign (v := (.bool _)) rfl) ?_
          refine o_nil ?_
          refine s_ret ?_
          exact ⟨_, _, res1 rfl rfl, ⟨congrArg Value.bool (decide_eq_false (fun e => hne (by rw [← e, names_getD (by omega)]))).symm, rfl⟩, sub_front ⟨_, rfl⟩⟩
        · have heq := Decidable.not_not.1 h7
          refine s_skip ?_
          refine s_region ?_
          refine o_val rfl rfl rfl (y_add rfl rfl (by simp only [inK]; omega)) ?_
          refine o_val rfl rfl rfl (y_move (v := (.int _ _)) rfl) ?_
          refine o_nil ?_
          exact ⟨g + 1, (by first | omega | (dsimp only; omega)), ⟨by omega, fun j hj => if e : j = g then by (rw [e]; exact heq) else hall j (by omega)⟩, ⟨rfl, rfl, rfl, rfl, rfl, (congrArg (Value.int _) (by omega)), trivial⟩, sub_front ⟨_, rfl⟩⟩
      · refine s_exit ?_
        refine s_seq ?_
        refine s_region ?_
        refine o_val rfl rfl rfl (y_assign (v := (.bool _)) rfl) ?_
        refine o_nil ?_
        refine s_ret ?_
        exact ⟨_, _, res1 rfl rfl, ⟨congrArg Value.bool (decide_eq_true (names_eq (by omega) (fun j hj => hall j (by omega)))).symm, rfl⟩, sub_front ⟨_, rfl⟩⟩

theorem FindOK.unique {ks : List KR} {nm : ByteArray} {r r' : Int} (h : FindOK ks nm r) (h' : FindOK ks nm r') : r = r' := by
  rcases h with ⟨h1, h2⟩ | ⟨j, h1, h2, h3, h4⟩ <;> rcases h' with ⟨e1, e2⟩ | ⟨i, e1, e2, e3, e4⟩
  · omega
  · exact absurd e3 (h2 i e2)
  · exact absurd h3 (e2 j h2)
  · rcases Nat.lt_trichotomy i j with hl | hl | hl
    · exact absurd e3 (h4 i hl)
    · omega
    · exact absurd h3 (e4 j hl)
/-- Where a kind with a name and fields is: its place or -1; are its fields the ones asked? -/
def Spot (ks : List KR) (nm : ByteArray) (nms : List ByteArray) (r : Int) (ok : Bool) : Prop :=
  (FindOK ks nm (-1) ∧ r = -1 ∧ ok = true) ∨ (∃ j : Nat, j < ks.length ∧ FindOK ks nm j ∧ ((names (ks.getD j default).fs = nms ∧ r = j ∧ ok = true) ∨ (names (ks.getD j default).fs ≠ nms ∧ r = -1 ∧ ok = false)))
theorem Spot.unique {ks : List KR} {nm : ByteArray} {nms : List ByteArray} {r r' : Int} {o o' : Bool} (h : Spot ks nm nms r o) (h' : Spot ks nm nms r' o') : r = r' ∧ o = o' := by
  rcases h with ⟨h1, h2, h3⟩ | ⟨j, h1, h2, h3⟩ <;> rcases h' with ⟨e1, e2, e3⟩ | ⟨i, e1, e2, e3⟩
  · exact ⟨by omega, by rw [h3, e3]⟩
  · have := h1.unique e2; omega
  · have := h2.unique e1; omega
  · have e := h2.unique e2
    have e' : j = i := by omega
    subst e'
    rcases h3 with h3 | h3 <;> rcases e3 with e3 | e3
    · exact ⟨by omega, by rw [h3.2.2, e3.2.2]⟩
    · exact absurd h3.1 e3.1
    · exact absurd e3.1 h3.1
    · exact ⟨by omega, by rw [h3.2.2, e3.2.2]⟩

theorem find_c {V : Mem} (A : Option Addr) (n c : Nat) (ks : List KR) (h : Cels V [] A (ks.flatMap encK)) (hn : ks.length = n) (hb : n ≤ 140737488355328) (hK : ∀ k ∈ ks, KOK V k) (nm : ByteArray) (B : Option Addr) (m d : Nat) (nms : List ByteArray) (h' : Cels V [] B (nms.map .string)) (hm : nms.length = m) : CallS Try.prog 146 [.slice A n c, .string nm, .slice B m d].toArray V [] (fun r L' => ∃ k ok, r = .tuple #[.int .i64 k, .int .i64 (if ok then 0 else 8)] ∧ Spot ks nm nms k ok ∧ L' = []) := by
  refine callS Try.func146 rfl rfl (fun w0 => ?_)
  refine s_seq ?_
  refine s_region ?_
  refine o_box (v := (.string _)) rfl rfl rfl (fun b1 => ?_)
  refine o_val rfl rfl rfl (y_assign (v := (.int _ _)) rfl) ?_
  refine o_val rfl rfl rfl (y_assign (v := (.int _ _)) rfl) ?_
  refine o_nil ?_
  refine s_seq ?_
  refine s_region ?_
  refine o_val rfl rfl rfl (y_move (v := (.slice _ _ _)) rfl) ?_
  refine o_val rfl rfl rfl (y_func' (xs := []) (a := []) (b := [(.pointer _)]) rfl rfl) ?_
  refine o_fn 1 (d := 11) rfl Try.call189 (IndexK_c _ _ _ ks h.here.down hn hb _ nm) rfl ?_
  rintro _ _ ⟨k, rfl, hk, rfl⟩
  refine o_val rfl rfl rfl (y_assign (v := (.int _ _)) rfl) ?_
  refine o_nil ?_
  refine s_seq ?_
  refine s_seq ?_
  refine s_region ?_
  refine o_val rfl rfl rfl (y_move (v := (.int _ _)) rfl) ?_
  refine o_val rfl rfl rfl (y_lss rfl rfl) ?_
  refine o_nil ?_
  refine s_if rfl (fun h2 => ?_) (fun h3 => ?_)
  · have hneg := h2
    refine s_seq ?_
    refine s_region ?_
    refine o_val rfl rfl rfl (y_assign (v := (.int _ _)) rfl) ?_
    refine o_val rfl rfl rfl (y_assign (v := (.int _ _)) rfl) ?_
    refine o_nil ?_
    refine s_ret ?_
    have hm1 : FindOK ks nm (-1) := by
      rcases hk with hh | ⟨j, h1, h2⟩
      · exact .inl ⟨rfl, hh.2⟩
      · omega
    exact ⟨_, [], res2 rfl rfl rfl, ⟨-1, true, rfl, .inl ⟨hm1, rfl, rfl⟩, rfl⟩, sub_picks [] rfl⟩
  · have hnn := h3
    obtain ⟨j, rfl, hj, hjn, hjm⟩ := hk.resolve_left (fun hh => by omega)
    have hx := hK _ (getD_mem' (d := default) hj)
    refine s_skip ?_
    refine s_seq ?_
    refine s_seq ?_
    refine s_region ?_
    refine o_val rfl rfl rfl (y_move (v := (.slice _ _ _)) rfl) ?_
    refine o_val rfl rfl rfl (y_move (v := (.int _ _)) rfl) ?_
    refine o_val rfl rfl rfl (y_indexAddr Try.runUnderlying23 Try.sizeOf58 (some_at (sz := 1) encK_len (i := 0) h (by omega)) rfl rfl (by omega)) ?_
    refine o_val rfl rfl rfl (y_fieldX (F := 1) Try.runUnderlying58 rfl Try.sizeOf56 rfl (some_at (sz := 1) encK_len (i := 0) h (by omega)) rfl) ?_
    refine o_val rfl rfl rfl (y_load Try.isAgg56 rfl ((cels_at (sz := 2) encK_len h.here (by omega)).cel' (i := 1) rfl)) ?_
    refine o_val rfl rfl rfl (y_move (v := (.slice _ _ _)) rfl) ?_
    refine o_fn 0 (d := 20) rfl Try.call191 (EqualF_c _ _ _ (ks.getD j default).fs hx.2.2.2.here.down hx.1 (by have := hx.2.2.1; omega) _ _ _ nms h'.here.down hm) rfl ?_
    rintro _ _ ⟨rfl, rfl⟩
    refine o_val rfl rfl rfl (y_not rfl) ?_
    refine o_nil ?_
    refine s_if rfl (fun h4 => ?_) (fun h5 => ?_)
    · have hne := h4
      refine s_seq ?_
      refine s_region ?_
      refine o_val rfl rfl rfl (y_assign (v := (.int _ _)) rfl) ?_
      refine o_val rfl rfl rfl (y_assign (v := (.int _ _)) rfl) ?_
      refine o_nil ?_
      refine s_ret ?_
      exact ⟨_, [], res2 rfl rfl rfl, ⟨-1, false, rfl, .inr ⟨j, hj, .inr ⟨j, rfl, hj, hjn, hjm⟩, .inr ⟨hne, rfl, rfl⟩⟩, rfl⟩, sub_picks [] rfl⟩
    · have heq := Decidable.not_not.1 h5
      refine s_skip ?_
      refine s_seq ?_
      refine s_region ?_
      refine o_val rfl rfl rfl (y_move (v := (.int _ _)) rfl) ?_
      refine o_val rfl rfl rfl (y_assign (v := (.int _ _)) rfl) ?_
      refine o_val rfl rfl rfl (y_assign (v := (.int _ _)) rfl) ?_
      refine o_nil ?_
      refine s_ret ?_
      exact ⟨_, [], res2 rfl rfl rfl, ⟨(j : Int), true, rfl, .inr ⟨j, hj, .inr ⟨j, rfl, hj, hjn, hjm⟩, .inl ⟨heq, rfl, rfl⟩⟩, rfl⟩, sub_picks [] rfl⟩

end Go.Proofs.Ytacmbiohjiogiaa.K
