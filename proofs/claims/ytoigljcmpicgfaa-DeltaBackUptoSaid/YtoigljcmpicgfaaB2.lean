/- Plain laws of bits: what is read of bytes, the lowest bit first. No condition. -/
import Derived.Test.YtoigljcmpicgfaaB1
namespace Go.Proofs.Ytoigljcmpicgfaa.K
open Go.RowKit

def bitAt (bs : List Int) (p : Nat) : Bool := (bs.getD (p / 8) 0).toNat.testBit (p % 8)
/-- The number of so many bits from a place on. -/
def num (bs : List Int) (p : Nat) : Nat → Nat
  | 0 => 0
  | k + 1 => num bs p k + (if bitAt bs (p + k) then 2 ^ k else 0)
theorem num_lt (bs : List Int) (p : Nat) : ∀ k, num bs p k < 2 ^ k
  | 0 => by simp [num]
  | k + 1 => by
    have := num_lt bs p k
    simp only [num, Nat.pow_succ]
    split <;> omega
theorem num_mono (bs : List Int) (p : Nat) {j : Nat} : ∀ {k : Nat}, j ≤ k → num bs p j ≤ num bs p k
  | 0, h => by rw [show j = 0 by omega]; exact Nat.le_refl _
  | k + 1, h => by
    by_cases e : j = k + 1
    · rw [e]; exact Nat.le_refl _
    · exact Nat.le_trans (num_mono bs p (show j ≤ k by omega)) (by simp only [num]; omega)
theorem num_succ_or (bs : List Int) (p k : Nat) : num bs p (k + 1) = num bs p k ||| (if bitAt bs (p + k) then 2 ^ k else 0) := by
  have h := num_lt bs p k
  simp only [num]
  split
  · have := Nat.two_pow_add_eq_or_of_lt h 1
    rw [Nat.mul_one] at this
    rw [Nat.add_comm, this, Nat.or_comm]
  · simp
theorem num_testBit (bs : List Int) (p : Nat) : ∀ k i, (num bs p k).testBit i = (decide (i < k) && bitAt bs (p + i))
  | 0, i => by simp [num]
  | k + 1, i => by
    rw [num_succ_or, Nat.testBit_or, num_testBit bs p k i]
    by_cases h1 : i < k
    · have : (if bitAt bs (p + k) then 2 ^ k else 0).testBit i = false := by
        split
        · rw [Nat.testBit_two_pow]; simp; omega
        · simp
      rw [this]; simp [h1, show i < k + 1 by omega]
    · by_cases h2 : i = k
      · subst h2
        by_cases h3 : bitAt bs (p + i) = true
        · simp [h3, Nat.testBit_two_pow]
        · simp at h3; simp [h3]
      · have : (if bitAt bs (p + k) then 2 ^ k else 0).testBit i = false := by
          split
          · rw [Nat.testBit_two_pow]; simp; omega
          · simp
        rw [this]; simp [h1, show ¬ i < k + 1 by omega]
theorem num_bits (bs : List Int) (p k : Nat) : bitsOf (num bs p k : Nat) k = (List.range k).map fun i => bitAt bs (p + i) := by
  unfold bitsOf
  apply List.map_congr_left
  intro i hi
  rw [Int.toNat_natCast, num_testBit]
  simp [List.mem_range.1 hi]
/-- The number whose bits these are. -/
theorem num_of {bs : List Int} {p k : Nat} {v : Int} (hv : 0 ≤ v ∧ v < 2 ^ k) (h : ∀ i, i < k → bitAt bs (p + i) = v.toNat.testBit i) : (num bs p k : Int) = v := by
  obtain ⟨n, rfl⟩ := Int.eq_ofNat_of_zero_le hv.1
  congr 1
  apply Nat.eq_of_testBit_eq
  intro i
  rw [num_testBit]
  by_cases hi : i < k
  · rw [h i hi]; simp [hi]
  · have : n < 2 ^ k := by have := hv.2; exact_mod_cast this
    rw [Nat.testBit_lt_two_pow (Nat.lt_of_lt_of_le this (Nat.pow_le_pow_right (by omega) (by omega)))]
    simp [hi]
theorem num_congr {bs cs : List Int} {p : Nat} : ∀ {k : Nat}, (∀ i, i < k → bitAt bs (p + i) = bitAt cs (p + i)) → num bs p k = num cs p k
  | 0, _ => rfl
  | k + 1, h => by simp only [num]; rw [num_congr (k := k) (fun i hi => h i (by omega)), h k (by omega)]
theorem num_one (bs : List Int) (p : Nat) : num bs p 1 = if bitAt bs p then 1 else 0 := by simp [num]
theorem u8_bit {b : Int} (hb : 0 ≤ b ∧ b ≤ 255) {r : Nat} (hr : r < 8) : bAnd .u8 (b.fdiv (2 ^ (min r 8))) 1 = if b.toNat.testBit r then 1 else 0 := by
  obtain ⟨n, rfl⟩ := Int.eq_ofNat_of_zero_le hb.1
  rw [show min r 8 = r by omega]
  have h1 : (n : Int).fdiv (2 ^ r) = ((n / 2 ^ r : Nat) : Int) := by
    rw [Int.fdiv_eq_ediv_of_nonneg _ (Int.le_of_lt (Int.pow_pos (by omega)))]
    simp
  have h2 : n / 2 ^ r ≤ n := Nat.div_le_self _ _
  rw [h1, Int.toNat_natCast, Nat.testBit_eq_decide_div_mod_eq]
  generalize n / 2 ^ r = m at h2
  have h3 := ofInt_toNat 8 (m : Int) (by omega) (by omega)
  have h4 := ofInt_toNat 8 1 (by omega) (by omega)
  unfold bAnd
  rw [show IntKind.u8.bits = 8 from rfl, BitVec.toNat_and, h3, h4, show (1 : Int).toNat = 1 from rfl, Nat.and_one_is_mod, Int.toNat_natCast]
  rw [wrap_in (k := .u8) (by simp only [inK]; omega)]
  by_cases hh : m % 2 = 1
  · simp [hh]
  · simp [hh, show m % 2 = 0 by omega]
theorem bytes_bd {bs : List Int} (hb : ∀ b ∈ bs, 0 ≤ b ∧ b ≤ 255) (j : Nat) : 0 ≤ bs.getD j 0 ∧ bs.getD j 0 ≤ 255 := by
  by_cases hj : j < bs.length
  · exact hb _ (getD_mem hj)
  · rw [List.getD_eq_getElem?_getD, List.getElem?_eq_none (by omega)]; simp
theorem bit_q {bs : List Int} (hb : ∀ b ∈ bs, 0 ≤ b ∧ b ≤ 255) (q : Nat) : bAnd .u8 ((bs.getD ((q : Int) / 8).toNat 0).fdiv (2 ^ (min (((q : Int) % 8).toNat) 8))) 1 = if bitAt bs q then 1 else 0 := by
  rw [show ((q : Int) / 8).toNat = q / 8 by omega, show ((q : Int) % 8).toNat = q % 8 by omega, u8_bit (bytes_bd hb _) (Nat.mod_lt _ (by omega))]
  rfl
theorem bit_q_bd {bs : List Int} (hb : ∀ b ∈ bs, 0 ≤ b ∧ b ≤ 255) (q : Nat) : 0 ≤ bAnd .u8 ((bs.getD ((q : Int) / 8).toNat 0).fdiv (2 ^ (min (((q : Int) % 8).toNat) 8))) 1 ∧ bAnd .u8 ((bs.getD ((q : Int) / 8).toNat 0).fdiv (2 ^ (min (((q : Int) % 8).toNat) 8))) 1 ≤ 1 := by
  rw [bit_q hb]; split <;> omega
theorem bit_q_in {bs : List Int} (hb : ∀ b ∈ bs, 0 ≤ b ∧ b ≤ 255) (q : Nat) : inK .u64 (bAnd .u8 ((bs.getD ((q : Int) / 8).toNat 0).fdiv (2 ^ (min (((q : Int) % 8).toNat) 8))) 1) := by
  have := bit_q_bd hb q; simp only [inK]; omega
theorem bit_q_in' {bs : List Int} (hb : ∀ b ∈ bs, 0 ≤ b ∧ b ≤ 255) (q : Nat) : inK .i64 (bAnd .u8 ((bs.getD ((q : Int) / 8).toNat 0).fdiv (2 ^ (min (((q : Int) % 8).toNat) 8))) 1) := by
  have := bit_q_bd hb q; simp only [inK]; omega
theorem bOr_u64 {a b : Int} (ha : 0 ≤ a ∧ a < 18446744073709551616) (hb : 0 ≤ b ∧ b < 18446744073709551616) : bOr .u64 a b = ((a.toNat ||| b.toNat : Nat) : Int) := by
  unfold bOr
  have h1 := ofInt_toNat 64 a ha.1 (by omega)
  have h2 := ofInt_toNat 64 b hb.1 (by omega)
  have h3 : a.toNat ||| b.toNat < 2 ^ 64 := Nat.or_lt_two_pow (by omega) (by omega)
  rw [show IntKind.u64.bits = 64 from rfl, BitVec.toNat_or, h1, h2]
  exact wrap_in (by simp only [inK]; omega)
theorem pow_bd {k n : Nat} (h : k < n) : 2 ^ k * 2 ≤ 2 ^ n := by
  have := Nat.pow_le_pow_right (show 0 < 2 by omega) (show k + 1 ≤ n by omega)
  rwa [Nat.pow_succ] at this
theorem bit_shl {k : IntKind} {b : Bool} {i n : Nat} (hi : i < n) (hn : n ≤ 64) (h : inK k ((2 ^ i : Nat) : Int)) (h0 : inK k 0) : k.wrap ((if b then 1 else 0) * 2 ^ (min ((i : Int).toNat) 64)) = ((if b then 2 ^ i else 0 : Nat) : Int) := by
  rw [show min (i : Int).toNat 64 = i by omega]
  cases b
  · simp only [Bool.false_eq_true, if_false, Int.zero_mul]; exact wrap_in h0
  · simp only [if_true, Int.one_mul]
    rw [show (2 : Int) ^ i = ((2 ^ i : Nat) : Int) by simp]
    exact wrap_in h
theorem get_step {bs : List Int} (hb : ∀ b ∈ bs, 0 ≤ b ∧ b ≤ 255) {p i : Nat} (hi : i < 64) :
    bOr .u64 (num bs p i : Nat) (IntKind.u64.wrap (bAnd .u8 ((bs.getD (((p + i : Nat) : Int) / 8).toNat 0).fdiv (2 ^ (min ((((p + i : Nat) : Int) % 8).toNat) 8))) 1 * 2 ^ (min ((i : Int).toNat) 64))) = (num bs p (i + 1) : Nat) := by
  have hp := pow_bd hi
  have hl := num_lt bs p i
  rw [bit_q hb, bit_shl hi (Nat.le_refl _) (by simp only [inK]; generalize 2 ^ i = z at hp; omega) (by simp only [inK]; omega)]
  rw [bOr_u64 ⟨by omega, by generalize 2 ^ i = z at *; omega⟩ ⟨by split <;> omega, by generalize 2 ^ i = z at *; split <;> omega⟩, Int.toNat_natCast, Int.toNat_natCast, num_succ_or]
theorem sum_step {bs : List Int} (hb : ∀ b ∈ bs, 0 ≤ b ∧ b ≤ 255) {p i : Nat} (hi : i < 8) :
    (num bs p i : Nat) + (IntKind.i64.wrap (bAnd .u8 ((bs.getD (((p + i : Nat) : Int) / 8).toNat 0).fdiv (2 ^ (min ((((p + i : Nat) : Int) % 8).toNat) 8))) 1 * 2 ^ (min ((i : Int).toNat) 64))) = (num bs p (i + 1) : Nat) := by
  have hp := pow_bd hi
  rw [bit_q hb, bit_shl hi (by omega) (by simp only [inK]; generalize 2 ^ i = z at hp; omega) (by simp only [inK]; omega)]
  simp only [num]
  split <;> simp
/-! What a reader of so many bits answers: the number, the fault, the place behind. -/
def gv (bs : List Int) (N p m : Nat) : Int := if N < p + m then 0 else num bs p m
def ge (N p m : Nat) : Int := if N < p + m then 14 else 0
def gp (N p m : Nat) : Nat := if N < p + m then p else p + m
def eu (a b : Int) : Int := if a = 0 then b else a
theorem gp_le {N p m : Nat} (h : p ≤ N) : gp N p m ≤ N := by unfold gp; split <;> omega
theorem gv_bd {bs : List Int} {N p m : Nat} : 0 ≤ gv bs N p m ∧ gv bs N p m < 2 ^ m := by
  unfold gv
  have h := num_lt bs p m
  have : (0 : Int) < 2 ^ m := Int.pow_pos (by omega)
  split
  · omega
  · refine ⟨by omega, ?_⟩
    have h2 : ((num bs p m : Nat) : Int) < ((2 ^ m : Nat) : Int) := Int.ofNat_lt.2 h
    simpa using h2
theorem gv8_sub {bs : List Int} {N p : Nat} : inK .i64 (gv bs N p 8 - 128) := by
  have h := gv_bd (bs := bs) (N := N) (p := p) (m := 8)
  simp only [inK]; omega
theorem gv8_bd {bs : List Int} {N p : Nat} : 0 ≤ gv bs N p 8 ∧ gv bs N p 8 ≤ 255 := by
  have h := gv_bd (bs := bs) (N := N) (p := p) (m := 8)
  omega
end Go.Proofs.Ytoigljcmpicgfaa.K
