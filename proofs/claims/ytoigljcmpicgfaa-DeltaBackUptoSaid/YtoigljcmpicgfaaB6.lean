/- Plain laws: the difference of two lists as bits, and a writer that is full. No condition. -/
import Derived.Test.YtoigljcmpicgfaaB5
namespace Go.Proofs.Ytoigljcmpicgfaa.K
open Go.RowKit

/-- A writer takes what fits whole, or nothing. -/
def wE (bits x : List Bool) : Int := if 524288 < bits.length + x.length then 6 else 0
def wB (bits x : List Bool) : List Bool := if 524288 < bits.length + x.length then bits else bits ++ x
/-- What a list has at a place, or 0. -/
def base (xs : List Int) (i : Nat) : Int := xs.getD i 0
def dd (old new : List Int) (i : Nat) : Int := IntKind.i64.wrap (new.getD i 0 - base old i)
theorem dd_in (old new : List Int) (i : Nat) : inK .i64 (dd old new i) := inK_wrap _ _
/-- How many are equal since the last that was not, and the bits of those before. -/
def dRun (old new : List Int) : Nat → Nat
  | 0 => 0
  | k + 1 => if new.getD k 0 = base old k then dRun old new k + 1 else 0
def dBits (old new : List Int) : Nat → List Bool
  | 0 => []
  | k + 1 => if new.getD k 0 = base old k then dBits old new k else dBits old new k ++ natB (dRun old new k) ++ natB (zz (dd old new k))
theorem dRun_le (old new : List Int) : ∀ k, dRun old new k ≤ k
  | 0 => Nat.le_refl _
  | k + 1 => by simp only [dRun]; have := dRun_le old new k; split <;> omega
theorem dBits_len (old new : List Int) : ∀ k, k ≤ 1099511627776 → (dBits old new k).length ≤ 160 * k
  | 0, _ => by simp [dBits]
  | k + 1, hk => by
    have ih := dBits_len old new k (by omega)
    have h1 := (natB_bd (v := dRun old new k) (by have := dRun_le old new k; omega)).2
    have h2 := (natB_bd (v := zz (dd old new k)) (zz_lt (dd_in old new k))).2
    simp only [dBits]
    split
    · omega
    · simp only [List.length_append]; omega
theorem dBits_le (old new : List Int) (k : Nat) : (dBits old new k).length ≤ (dBits old new (k + 1)).length := by
  simp only [dBits]; split
  · omega
  · simp only [List.length_append]; omega
def dHead (s1 s2 : Int) (n : Nat) : List Bool := bitsOf s1 64 ++ bitsOf s2 64 ++ natB n
def dTail (old new : List Int) (k : Nat) : List Bool := if 0 < dRun old new k then natB (dRun old new k) else []
/-- The whole difference. -/
def dAll (s1 s2 : Int) (old new : List Int) : List Bool := dHead s1 s2 new.length ++ dBits old new new.length ++ dTail old new new.length
theorem dHead_len {s1 s2 : Int} {n : Nat} (hn : n < 18446744073709551616) : (dHead s1 s2 n).length ≤ 208 := by
  have := (natB_bd hn).2
  simp only [dHead, List.length_append, bitsOf_len]; omega
theorem dAll_len {s1 s2 : Int} {old new : List Int} (h : new.length ≤ 549755813888) : (dAll s1 s2 old new).length ≤ 288 + 160 * new.length := by
  have h1 := dBits_len old new new.length (by omega)
  have h2 := dHead_len (s1 := s1) (s2 := s2) (n := new.length) (by omega)
  have h3 := (natB_bd (v := dRun old new new.length) (by have := dRun_le old new new.length; omega)).2
  have h4 : (dTail old new new.length).length ≤ 80 := by unfold dTail; split; exact h3; exact Nat.zero_le _
  unfold dAll
  simp only [List.length_append]; omega
/-- The writer's state: all that was to be written, or full. -/
def wOK (full : List Bool) (err : Int) (bits : List Bool) : Prop := bits.length ≤ 524288 ∧ ((err = 0 ∧ bits = full) ∨ (err = 6 ∧ 524288 < full.length))
theorem wOK_step {full bits x : List Bool} {err : Int} (h : wOK full err bits) : wOK (full ++ x) (max err (wE bits x)) (wB bits x) := by
  unfold wOK wE wB at *
  rcases h with ⟨h0, ⟨rfl, rfl⟩ | ⟨rfl, h1⟩⟩
  · by_cases hh : 524288 < bits.length + x.length
    · rw [if_pos hh, if_pos hh]; exact ⟨h0, .inr ⟨by decide, by rw [List.length_append]; omega⟩⟩
    · rw [if_neg hh, if_neg hh]; exact ⟨by rw [List.length_append]; omega, .inl ⟨by decide, rfl⟩⟩
  · by_cases hh : 524288 < bits.length + x.length
    · rw [if_pos hh, if_pos hh]; exact ⟨h0, .inr ⟨by decide, by rw [List.length_append]; omega⟩⟩
    · rw [if_neg hh, if_neg hh]; exact ⟨by rw [List.length_append]; omega, .inr ⟨by decide, by rw [List.length_append]; omega⟩⟩
theorem wOK_keep {full bits : List Bool} {err : Int} (h : wOK full err bits) : wOK (full ++ []) err bits := by rwa [List.append_nil]
theorem wB_le {bits x : List Bool} (h : bits.length ≤ 524288) : (wB bits x).length ≤ 524288 := by
  unfold wB; split
  · exact h
  · rw [List.length_append]; omega
theorem wOK_01 {full bits : List Bool} {err : Int} (h : wOK full err bits) : err = 0 ∨ err = 6 := h.2.elim (fun h => .inl h.1) (fun h => .inr h.1)
end Go.Proofs.Ytoigljcmpicgfaa.K
