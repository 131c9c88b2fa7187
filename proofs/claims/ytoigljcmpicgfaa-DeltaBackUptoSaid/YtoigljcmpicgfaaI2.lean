/- Walks over the package input: frames of inputs and their check, in the program and in the reference. No condition beyond what each statement names. -/
import Derived.Test.YtoigljcmpicgfaaProg
import Derived.Test.YtoigljcmpicgfaaK5
import Derived.Test.YtoigljcmpicgfaaB1
import Derived.Test.YtoigljcmpicgfaaI1
set_option linter.unusedVariables false
set_option linter.unusedSimpArgs false
set_option maxRecDepth 100000
namespace Go.Proofs.Ytoigljcmpicgfaa.K
open Go.RowKit

structure Inp where
  k : Int
  x : Int
  y : Int
instance : Inhabited Inp := ⟨⟨0, 0, 0⟩⟩
instance : DecidableEq Inp := fun a b => decidable_of_iff (a.k = b.k ∧ a.x = b.x ∧ a.y = b.y) ⟨fun ⟨h1, h2, h3⟩ => by cases a; cases b; simp_all, fun h => by subst h; exact ⟨rfl, rfl, rfl⟩⟩
def encI (i : Inp) : List Value := [.int .i64 i.k, .int .i64 i.x, .int .i64 i.y]
theorem encI_len (i : Inp) : (encI i).length = 3 := rfl
theorem encI_one (l : List Inp) : ∀ c ∈ l.flatMap encI, c.oneCell' = true := by
  intro c hc; obtain ⟨i, _, h⟩ := List.mem_flatMap.1 hc; simp [encI] at h; rcases h with rfl | rfl | rfl <;> rfl
def Inp.ok (i : Inp) : Prop := okIn i.k i.x i.y
instance (i : Inp) : Decidable i.ok := by unfold Inp.ok; infer_instance
/-- Numbers that an int can be. -/
def Inp.fit (i : Inp) : Prop := inK .i64 i.k ∧ inK .i64 i.x ∧ inK .i64 i.y
/-- Is a frame one for so many players? -/
def okFr (p : Int) (l : List Inp) : Prop := 1 ≤ p ∧ p ≤ 8 ∧ (l.length : Int) = p ∧ ∀ i ∈ l, i.ok
instance (p : Int) (l : List Inp) : Decidable (okFr p l) := by unfold okFr; infer_instance
def frErr (p : Int) (l : List Inp) : Int := if okFr p l then 0 else 1
theorem frErr_bad {p : Int} {l : List Inp} (h : ¬ okFr p l) : (1 : Int) = frErr p l := by unfold frErr; rw [if_neg h]
theorem frErr_ok {p : Int} {l : List Inp} (h : okFr p l) : (0 : Int) = frErr p l := by unfold frErr; rw [if_pos h]
theorem inErr_bad {i : Inp} (h : ¬ inErr i.k i.x i.y = 0) : ¬ i.ok := by unfold inErr at h; intro h'; exact h (if_pos h')
theorem inErr_good {i : Inp} (h : inErr i.k i.x i.y = 0) : i.ok := by
  unfold inErr at h
  by_cases h' : okIn i.k i.x i.y
  · exact h'
  · rw [if_neg h'] at h; cases h
theorem inErr_one {i : Inp} (h : ¬ inErr i.k i.x i.y = 0) : inErr i.k i.x i.y = 1 := if_neg (inErr_bad h)
theorem getD_in {l : List Inp} {i : Nat} (h : i < l.length) : l.getD i default ∈ l := getD_mem h
theorem all_of {l : List Inp} (h : ∀ j, j < l.length → (l.getD j default).ok) : ∀ i ∈ l, i.ok := by
  intro i hi
  obtain ⟨j, hj, rfl⟩ := List.mem_iff_getElem.1 hi
  have := h j hj
  simpa [hj] using this
theorem all_step {l : List Inp} {k : Nat} (h : ∀ j, j < k → (l.getD j default).ok) (hk : (l.getD k default).ok) : ∀ j, j < k + 1 → (l.getD j default).ok := by
  intro j hj
  by_cases e : j = k
  · subst e; exact hk
  · exact h j (by omega)

end Go.Proofs.Ytoigljcmpicgfaa.K
