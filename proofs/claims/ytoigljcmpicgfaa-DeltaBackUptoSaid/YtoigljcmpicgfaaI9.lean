/- Walks: the law on unpacking. No condition beyond what each statement names. -/
import Derived.Test.YtoigljcmpicgfaaProg
import Derived.Test.YtoigljcmpicgfaaK8
import Derived.Test.YtoigljcmpicgfaaB4
import Derived.Test.YtoigljcmpicgfaaI1
import Derived.Test.YtoigljcmpicgfaaI2
import Derived.Test.YtoigljcmpicgfaaI3
import Derived.Test.YtoigljcmpicgfaaI4
import Derived.Test.YtoigljcmpicgfaaI5
import Derived.Test.YtoigljcmpicgfaaI6
import Derived.Test.YtoigljcmpicgfaaI7
import Derived.Test.YtoigljcmpicgfaaI8
set_option linter.unusedVariables false
set_option linter.unusedSimpArgs false
set_option maxRecDepth 100000
namespace Go.Proofs.Ytoigljcmpicgfaa.K
open Go.RowKit

theorem flat_none {xs : List Inp} (h : xs.flatMap encI = []) : xs = [] := by cases xs with
  | nil => rfl
  | cons a l => simp [encI] at h

def igrp (b : Nat) (p : Nat) : Grp := [(b, .cells [.int .i64 p].toArray 3 (0, 0))]
def sgrp (b : Nat) (A : Option Addr) (n c : Nat) : Grp := [(b, .cells [.slice A n c].toArray 23 (0, 0))]
def bgrp (b : Nat) (o : Bool) : Grp := [(b, .cells [.bool o].toArray 4 (0, 0))]

theorem law_end {bs : List Int} {N : Nat} {l : List Inp} {p : Nat} {ov : Bool} {ws : List Inp} (h : lawOK bs N l l.length p ov ws) (ho : ov = false) : unTo bs N l l.length = some (ws, p) := by
  obtain ⟨xs, _, h1, h2⟩ := h.2.2.2 ho
  rw [h2, h1]; simp
theorem up_bad {l : List Inp} {bs : List Int} {xs : List Inp} {er : Int} (h : upOK l bs xs er) (hf : ¬ frErr l.length l = 0) : er = frErr l.length l ∧ xs = [] := by
  rcases h with h | h | h
  · exact ⟨h.2.1.trans (frErr_nz hf).symm, h.2.2⟩
  · exact absurd (frErr_ok h.1).symm hf
  · exact absurd (frErr_ok h.1).symm hf
theorem up_over {l : List Inp} {bs : List Int} {xs : List Inp} {er : Int} (h : upOK l bs xs er) (hf : okFr l.length l) (hn : unTo bs (8 * bs.length) l l.length = none) : er = 14 ∧ xs = [] := by
  rcases h with h | h | h
  · exact absurd hf h.1
  · exact h.2.2
  · obtain ⟨_, ys, p, h1, _⟩ := h; rw [hn] at h1; cases h1
theorem up_some {l : List Inp} {bs : List Int} {xs : List Inp} {er : Int} {ys : List Inp} {p : Nat} (h : upOK l bs xs er) (hf : okFr l.length l) (hn : unTo bs (8 * bs.length) l l.length = some (ys, p)) : (Wr bs (packTo l ys l.length) ∧ er = 0 ∧ xs = ys) ∨ (¬ Wr bs (packTo l ys l.length) ∧ er = 3 ∧ xs = []) := by
  rcases h with h | h | h
  · exact absurd hf h.1
  · rw [hn] at h; cases h.2.1
  · obtain ⟨_, zs, q, h1, h2⟩ := h; rw [hn] at h1; cases h1; exact h2

end Go.Proofs.Ytoigljcmpicgfaa.K
