/- Walks: slices compared and cloned, a frame unpacked. No condition beyond what each statement names. -/
import Derived.Test.YtoigljcmpicgfaaProg
import Derived.Test.YtoigljcmpicgfaaK8
import Derived.Test.YtoigljcmpicgfaaB3
import Derived.Test.YtoigljcmpicgfaaI1
import Derived.Test.YtoigljcmpicgfaaI2
import Derived.Test.YtoigljcmpicgfaaI3
import Derived.Test.YtoigljcmpicgfaaI4
import Derived.Test.YtoigljcmpicgfaaI7
set_option linter.unusedVariables false
set_option linter.unusedSimpArgs false
set_option maxRecDepth 100000
namespace Go.Proofs.Ytoigljcmpicgfaa.K
open Go.RowKit

theorem eq_step {α : Type} [Inhabited α] {bs cs : List α} {k : Nat} (h : ∀ j, j < k → bs.getD j default = cs.getD j default) (hk : bs.getD k default = cs.getD k default) : ∀ j, j < k + 1 → bs.getD j default = cs.getD j default := by
  intro j hj
  by_cases e : j = k
  · rw [e]; exact hk
  · exact h j (by omega)
theorem list_ext_getD {α : Type} [Inhabited α] {bs cs : List α} (hl : bs.length = cs.length) (h : ∀ j, j < bs.length → bs.getD j default = cs.getD j default) : bs = cs := by
  apply List.ext_getElem hl
  intro j h1 h2
  have := h j h1
  simpa [List.getD_eq_getElem?_getD, h1, h2] using this

theorem inp_eq {a b : Inp} (h : a.k = b.k ∧ a.x = b.x ∧ a.y = b.y) : a = b := by cases a; cases b; simp_all

theorem NewR_k0 (v0A : Option Addr) (v0n : Nat) (v0c : Nat) (w : World) : (Instr.build 158 ([(0, (.slice v0A v0n v0c))] : List (Nat × Value)).toArray).run Try.prog w = .ok (.agg #[.slice v0A v0n v0c, .int .i64 0]) w := by kernel_rfl
theorem NewR_c {V : Mem} (A : Option Addr) (n c : Nat) (bs : List Int) (h : Cels V [] A (bs.map (.int .u8))) (hn : bs.length = n) (hsz : n ≤ 140737488355328) : CallS Try.prog 43 [.slice A n c].toArray V []
    (fun r L' => ∃ rb B e G, r = .pointer (some ⟨rb, 0, none⟩) ∧ OS B n e 5 1 (bs.map (.int .u8)) G ∧ L' = [rgrp rb B n e 0, G]) := by
  refine callS Try.func43 rfl rfl (fun w0 => ?_)
  refine s_seq ?_
  refine s_region ?_
  refine o_val rfl rfl rfl (y_assign (v := (.pointer _)) rfl) ?_
  refine o_nil ?_
  refine s_seq ?_
  refine s_region ?_
  refine o_val rfl rfl rfl (y_move (v := (.slice _ _ _)) rfl) ?_
  refine o_newgroup ?_
  refine o_append (sz := 1) (bytes := 1) (news := bs.map (.int .u8)) 0 rfl Try.underlying23 Try.type5 rfl rfl rfl rfl rfl (OS.nil 5 1) rfl rfl (Src.rd (sz := 0) Try.underlying23 h.here (by simp [hn]) (one_int _ _)) (by omega) (fun A2 c3 E4 ho5 hn6 => ?_)
  have ho7 : OS A2 n c3 5 1 (bs.map (.int .u8)) E4 := by simpa using ho5
  clear ho5
  refine o_val rfl rfl rfl (y_build (vs := [(0, .slice _ _ _)]) rfl (NewR_k0 _ _ _)) ?_
  refine o_box (v := (.agg #[(.slice _ _ _), (.int _ _)])) rfl rfl rfl (fun b8 => ?_)
  refine o_val rfl rfl rfl (y_assign (v := (.pointer _)) rfl) ?_
  refine o_nil ?_
  refine s_ret ?_
  have e0 : (0 + n : Nat) = n := Nat.zero_add n
  exact ⟨_, [rgrp b8 A2 n c3 0, E4], res1 rfl rfl, ⟨_, _, _, _, rfl, ho7, rfl⟩, (by rw [e0]; exact sub_picks [1, 0] rfl)⟩

/-- What Unpack answers. -/
def upOK (l : List Inp) (bs : List Int) (xs : List Inp) (er : Int) : Prop :=
  (¬ okFr l.length l ∧ er = 1 ∧ xs = []) ∨ (okFr l.length l ∧ unTo bs (8 * bs.length) l l.length = none ∧ er = 14 ∧ xs = []) ∨
  (okFr l.length l ∧ ∃ ys p, unTo bs (8 * bs.length) l l.length = some (ys, p) ∧ ((Wr bs (packTo l ys l.length) ∧ er = 0 ∧ xs = ys) ∨ (¬ Wr bs (packTo l ys l.length) ∧ er = 3 ∧ xs = [])))
theorem inp_map (xs : List Inp) (x : Inp) : xs.flatMap encI ++ [.int .i64 x.k, .int .i64 x.x, .int .i64 x.y] = (xs ++ [x]).flatMap encI := by simp [encI]
theorem one_fail {bs : List Int} {N p : Nat} {y x : Inp} {er : Int} {p' : Nat} (h : oneOK bs N p y x er p') (he : ¬ er = 0) : oneF bs N p y = none := h.2.elim (fun h => h.2) (fun h => absurd h.1 he)
theorem one_good {bs : List Int} {N p : Nat} {y x : Inp} {er : Int} {p' : Nat} (h : oneOK bs N p y x er p') (he : ¬ ¬ er = 0) : oneF bs N p y = some (x, p') := h.2.elim (fun h => absurd (by rw [h.1]; decide) he) (fun h => h.2)

end Go.Proofs.Ytoigljcmpicgfaa.K
