/- Plain laws: numbers written in groups of four bits, signed numbers, and differences of lists as bits. No condition. -/
import Derived.Test.YtoigljcmpicgfaaB3
import Derived.Test.YtoigljcmpicgfaaK9
namespace Go.Proofs.Ytoigljcmpicgfaa.K
open Go.RowKit

/-- How many groups of four bits a number takes. -/
def isGrp (v g : Nat) : Prop := 1 ≤ g ∧ v / 16 ^ g = 0 ∧ ∀ j, 1 ≤ j → j < g → v / 16 ^ j ≠ 0
theorem isGrp_unique {v g g' : Nat} (h : isGrp v g) (h' : isGrp v g') : g = g' := by
  rcases Nat.lt_trichotomy g g' with hl | hl | hl
  · exact absurd h.2.1 (h'.2.2 g h.1 hl)
  · exact hl
  · exact absurd h'.2.1 (h.2.2 g' h'.1 hl)
def grp (v : Nat) : Nat := if v < 16 then 1 else grp (v / 16) + 1
termination_by v
decreasing_by omega
theorem div_pow16 (v i : Nat) : v / 16 ^ (i + 1) = v / 16 / 16 ^ i := by rw [Nat.pow_succ, Nat.mul_comm, Nat.div_div_eq_div_mul]
theorem grp_is (v : Nat) : isGrp v (grp v) := by
  induction v using Nat.strongRecOn with
  | _ v ih =>
    unfold grp
    split
    · rename_i h; exact ⟨Nat.le_refl _, by rw [Nat.pow_one]; omega, fun j h1 h2 => by omega⟩
    · rename_i h
      obtain ⟨h1, h2, h3⟩ := ih (v / 16) (by omega)
      refine ⟨by omega, by rw [div_pow16]; exact h2, fun j hj1 hj2 => ?_⟩
      obtain ⟨i, rfl⟩ : ∃ i, j = i + 1 := ⟨j - 1, by omega⟩
      rw [div_pow16]
      by_cases hi : i = 0
      · subst hi; rw [Nat.pow_zero, Nat.div_one]; omega
      · exact h3 i (by omega) (by omega)
theorem div16_zero {v i : Nat} (hv : v < 18446744073709551616) (hi : 16 ≤ i) : v / 16 ^ i = 0 := by
  apply Nat.div_eq_of_lt
  exact Nat.lt_of_lt_of_le hv (by have := Nat.pow_le_pow_right (show 0 < 16 by omega) hi; exact Nat.le_trans (by decide) this)
theorem grp_le {v : Nat} (hv : v < 18446744073709551616) : 1 ≤ grp v ∧ grp v ≤ 16 := by
  obtain ⟨h1, h2, h3⟩ := grp_is v
  refine ⟨h1, ?_⟩
  by_cases h : grp v ≤ 16
  · exact h
  · exact absurd (div16_zero hv (Nat.le_refl 16)) (h3 16 (by omega) (by omega))
/-- The first groups of a number. -/
def natBits (v g : Nat) : List Bool := (List.range g).flatMap fun i => bitsOf (v / 16 ^ i : Nat) 4 ++ [decide (v / 16 ^ (i + 1) ≠ 0)]
theorem natBits_zero (v : Nat) : natBits v 0 = [] := rfl
theorem natBits_succ (v g : Nat) : natBits v (g + 1) = natBits v g ++ (bitsOf (v / 16 ^ g : Nat) 4 ++ [decide (v / 16 ^ (g + 1) ≠ 0)]) := by simp [natBits, List.range_succ]
theorem natBits_len (v : Nat) : ∀ g, (natBits v g).length = 5 * g
  | 0 => rfl
  | g + 1 => by rw [natBits_succ, List.length_append, natBits_len v g]; simp [bitsOf_len]; omega
def natB (v : Nat) : List Bool := natBits v (grp v)
theorem natB_len (v : Nat) : (natB v).length = 5 * grp v := natBits_len v _
theorem natB_bd {v : Nat} (hv : v < 18446744073709551616) : 5 ≤ (natB v).length ∧ (natB v).length ≤ 80 := by
  have := grp_le hv; rw [natB_len]; omega
theorem shr16 (v i : Nat) : (v : Int).fdiv (2 ^ (min ((4 * (i : Int)).toNat) 64)) = if i ≤ 16 then ((v / 16 ^ i : Nat) : Int) else (v : Int).fdiv (2 ^ 64) := by
  by_cases h : i ≤ 16
  · rw [if_pos h, show min (4 * (i : Int)).toNat 64 = 4 * i by omega, Int.fdiv_eq_ediv_of_nonneg _ (Int.le_of_lt (Int.pow_pos (by omega))), show (16 : Nat) = 2 ^ 4 from rfl, ← Nat.pow_mul]
    simp
  · rw [if_neg h, show min (4 * (i : Int)).toNat 64 = 64 by omega]
theorem shr4 (v : Nat) : (v : Int).fdiv (2 ^ (min ((4 : Int).toNat) 64)) = ((v / 16 : Nat) : Int) := by
  have := shr16 v 1
  simpa using this
theorem and15 {a : Nat} (ha : a < 18446744073709551616) : bAnd .u64 (a : Int) 15 = ((a % 16 : Nat) : Int) := by
  unfold bAnd
  have h1 := ofInt_toNat 64 (a : Int) (by omega) (by omega)
  have h2 := ofInt_toNat 64 15 (by omega) (by omega)
  rw [show IntKind.u64.bits = 64 from rfl, BitVec.toNat_and, h1, h2, show (15 : Int).toNat = 2 ^ 4 - 1 from rfl, Nat.and_two_pow_sub_one_eq_mod, Int.toNat_natCast]
  exact wrap_in (k := .u64) (by simp only [inK]; omega)
theorem div_le16 {v : Nat} (hv : v < 18446744073709551616) (i : Nat) : v / 16 ^ i < 18446744073709551616 := Nat.lt_of_le_of_lt (Nat.div_le_self _ _) hv
theorem or16 {a : Nat} (ha : a < 16) : bOr .u64 (a : Int) 16 = ((a + 16 : Nat) : Int) := by
  rw [bOr_u64 (by omega) (by omega), Int.toNat_natCast]
  have := Nat.two_pow_add_eq_or_of_lt (show a < 2 ^ 4 from ha) 1
  rw [Nat.mul_one] at this
  rw [show (16 : Int).toNat = 2 ^ 4 from rfl, Nat.or_comm, ← this, Nat.add_comm]
theorem or0 {a : Nat} (ha : a < 16) : bOr .u64 (a : Int) 0 = (a : Int) := by
  rw [bOr_u64 (by omega) (by omega), Int.toNat_natCast]; simp
theorem nib1 {v i : Nat} (hv : v < 18446744073709551616) (hi : i ≤ 16) : bOr .u64 (bAnd .u64 ((v : Int).fdiv (2 ^ (min ((4 * (i : Int)).toNat) 64))) 15) 16 = ((v / 16 ^ i % 16 + 16 : Nat) : Int) := by
  rw [shr16, if_pos hi, and15 (div_le16 hv i), or16 (Nat.mod_lt _ (by omega))]
theorem nib0 {v i : Nat} (hv : v < 18446744073709551616) (hi : i ≤ 16) : bOr .u64 (bAnd .u64 ((v : Int).fdiv (2 ^ (min ((4 * (i : Int)).toNat) 64))) 15) 0 = ((v / 16 ^ i % 16 : Nat) : Int) := by
  rw [shr16, if_pos hi, and15 (div_le16 hv i), or0 (Nat.mod_lt _ (by omega))]
theorem bits5 (a : Nat) : bitsOf ((a % 16 : Nat) : Int) 5 = bitsOf (a : Int) 4 ++ [false] := by
  rw [bitsOf_succ]
  congr 1
  · unfold bitsOf
    apply List.map_congr_left
    intro i hi
    have hi4 : i < 4 := List.mem_range.1 hi
    rw [Int.toNat_natCast, Int.toNat_natCast, show (16 : Nat) = 2 ^ 4 from rfl, Nat.testBit_mod_two_pow]
    simp [hi4]
  · rw [Int.toNat_natCast, Nat.testBit_lt_two_pow (i := 4) (Nat.mod_lt _ (by omega))]
theorem bits5' (a : Nat) : bitsOf ((a % 16 + 16 : Nat) : Int) 5 = bitsOf (a : Int) 4 ++ [true] := by
  have e : a % 16 + 16 = 2 ^ 4 * 1 + a % 16 := by omega
  rw [bitsOf_succ]
  congr 1
  · unfold bitsOf
    apply List.map_congr_left
    intro i hi
    have hi4 : i < 4 := List.mem_range.1 hi
    rw [Int.toNat_natCast, Int.toNat_natCast, e, Nat.testBit_two_pow_mul_add _ (Nat.mod_lt _ (by omega)), if_pos hi4, Nat.testBit_mod_two_pow (j := 4)]
    simp [hi4]
  · rw [Int.toNat_natCast, e, Nat.testBit_two_pow_mul_add _ (Nat.mod_lt _ (by omega)), if_neg (by omega)]; rfl
/-- One more group, as the writer writes it. -/
theorem nat_more {v g i : Nat} (h : isGrp v g) (hi : i + 1 < g) : natBits v i ++ bitsOf ((v / 16 ^ i % 16 + 16 : Nat) : Int) 5 = natBits v (i + 1) := by
  rw [natBits_succ, bits5', decide_eq_true (h.2.2 (i + 1) (by omega) hi)]
theorem nat_last {v g i : Nat} (h : isGrp v g) (hi : i < g) (hi' : ¬ i + 1 < g) : natBits v i ++ bitsOf ((v / 16 ^ i % 16 : Nat) : Int) 5 = natBits v (i + 1) := by
  have e : i + 1 = g := by omega
  rw [natBits_succ, bits5, decide_eq_false (by rw [e]; exact fun hh => hh h.2.1)]
/-- A signed number as one without a sign. -/
def zz (d : Int) : Nat := if 0 ≤ d then (2 * d).toNat else (-2 * d - 1).toNat
theorem zz_lt {d : Int} (h : inK .i64 d) : zz d < 18446744073709551616 := by
  unfold zz; simp only [inK] at h; split <;> omega
theorem xor_ones {a : Nat} (ha : a < 18446744073709551616) : bXor .u64 (a : Int) 18446744073709551615 = ((18446744073709551615 - a : Nat) : Int) := by
  unfold bXor
  rw [show IntKind.u64.bits = 64 from rfl]
  have h1 : BitVec.ofInt 64 18446744073709551615 = BitVec.allOnes 64 := by decide
  have h2 : (BitVec.ofInt 64 (a : Int)).toNat = a := by rw [ofInt_toNat 64 (a : Int) (by omega) (by omega), Int.toNat_natCast]
  rw [h1, BitVec.xor_allOnes, BitVec.toNat_not, h2]
  rw [show 2 ^ 64 - 1 - a = 18446744073709551615 - a by omega]
  exact wrap_in (k := .u64) (by simp only [inK]; omega)
theorem xor_zero64 {a : Nat} (ha : a < 18446744073709551616) : bXor .u64 (a : Int) 0 = (a : Int) := by
  unfold bXor
  rw [show IntKind.u64.bits = 64 from rfl]
  have h2 : (BitVec.ofInt 64 (a : Int)).toNat = a := by rw [ofInt_toNat 64 (a : Int) (by omega) (by omega), Int.toNat_natCast]
  rw [show BitVec.ofInt 64 0 = 0#64 by decide, BitVec.xor_zero, h2]
  exact wrap_in (k := .u64) (by simp only [inK]; omega)
theorem wrap_u64 (n : Int) : IntKind.u64.wrap n = n % 18446744073709551616 := by
  simp [IntKind.wrap, IntKind.signed, IntKind.bits]
theorem zz_writer {d : Int} (h : inK .i64 d) : bXor .u64 (IntKind.u64.wrap (IntKind.u64.wrap d * 2 ^ (min ((1 : Int).toNat) 64))) (IntKind.u64.wrap (d.fdiv (2 ^ (min ((63 : Int).toNat) 64)))) = (zz d : Int) := by
  simp only [inK] at h
  rw [show min (1 : Int).toNat 64 = 1 from rfl, show min (63 : Int).toNat 64 = 63 from rfl, wrap_u64, wrap_u64, wrap_u64, Int.fdiv_eq_ediv_of_nonneg _ (by decide)]
  unfold zz
  by_cases h0 : 0 ≤ d
  · rw [if_pos h0, show d / 2 ^ 63 = 0 by omega, Int.zero_emod]
    have e : d % 18446744073709551616 * 2 ^ 1 % 18446744073709551616 = (((2 * d).toNat : Nat) : Int) := by omega
    rw [e, xor_zero64 (by omega)]
  · rw [if_neg h0, show d / 2 ^ 63 = -1 by omega, show (-1 : Int) % 18446744073709551616 = 18446744073709551615 by decide]
    have e : d % 18446744073709551616 * 2 ^ 1 % 18446744073709551616 = (((2 * d + 18446744073709551616).toNat : Nat) : Int) := by omega
    rw [e, xor_ones (by omega)]
    omega
end Go.Proofs.Ytoigljcmpicgfaa.K
