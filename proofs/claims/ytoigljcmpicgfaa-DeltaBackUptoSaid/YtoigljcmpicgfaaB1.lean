/- Plain laws of bits: bytes that hold a list of bits, the lowest bit first. No condition. -/
import Derived.Test.YtoigljcmpicgfaaK2
namespace Go.Proofs.Ytoigljcmpicgfaa.K
open Go.RowKit

theorem ofInt_toNat (w : Nat) (a : Int) (h0 : 0 ≤ a) (h1 : a.toNat < 2 ^ w) : (BitVec.ofInt w a).toNat = a.toNat := by
  obtain ⟨n, rfl⟩ := Int.eq_ofNat_of_zero_le h0
  simp at h1 ⊢
  exact Nat.mod_eq_of_lt h1
theorem bOr_u8 {a b : Int} (ha : 0 ≤ a ∧ a ≤ 255) (hb : 0 ≤ b ∧ b ≤ 255) : bOr .u8 a b = ((a.toNat ||| b.toNat : Nat) : Int) := by
  unfold bOr
  have h1 := ofInt_toNat 8 a ha.1 (by omega)
  have h2 := ofInt_toNat 8 b hb.1 (by omega)
  have h3 : a.toNat ||| b.toNat < 2 ^ 8 := Nat.or_lt_two_pow (by omega) (by omega)
  rw [show IntKind.u8.bits = 8 from rfl, BitVec.toNat_or, h1, h2]
  exact wrap_in ⟨by omega, by omega⟩
theorem bAnd_one {k : IntKind} {a : Int} (hk : k = .u64) (ha : 0 ≤ a ∧ a ≤ 18446744073709551615) : bAnd k a 1 = a % 2 := by
  subst hk
  unfold bAnd
  have h1 := ofInt_toNat 64 a ha.1 (by omega)
  have h2 := ofInt_toNat 64 1 (by omega) (by omega)
  rw [show IntKind.u64.bits = 64 from rfl, BitVec.toNat_and, h1, h2, show (1 : Int).toNat = 1 from rfl, Nat.and_one_is_mod]
  rw [wrap_in (k := .u64) (by simp only [inK]; omega)]
  omega

/-- The bytes 'bs' hold the bits. -/
def Wr (bs : List Int) (bits : List Bool) : Prop :=
  bs.length = (bits.length + 7) / 8 ∧ (∀ b ∈ bs, 0 ≤ b ∧ b ≤ 255) ∧ ∀ j t, j < bs.length → t < 8 → (bs.getD j 0).toNat.testBit t = bits.getD (8 * j + t) false
theorem Wr.nil : Wr [] [] := ⟨rfl, by simp, by simp⟩
theorem getD_mem {α : Type} {l : List α} {j : Nat} {d : α} (h : j < l.length) : l.getD j d ∈ l := by
  rw [List.getD_eq_getElem?_getD, List.getElem?_eq_getElem h]; simp
theorem Wr.bd {bs : List Int} {bits : List Bool} (h : Wr bs bits) (j : Nat) : 0 ≤ bs.getD j 0 ∧ bs.getD j 0 ≤ 255 := by
  by_cases hj : j < bs.length
  · exact h.2.1 _ (getD_mem hj)
  · rw [List.getD_eq_getElem?_getD, List.getElem?_eq_none (by omega)]; simp
theorem byte_ext {a b : Int} (ha : 0 ≤ a ∧ a ≤ 255) (hb : 0 ≤ b ∧ b ≤ 255) (h : ∀ t, t < 8 → a.toNat.testBit t = b.toNat.testBit t) : a = b := by
  have : a.toNat = b.toNat := by
    apply Nat.eq_of_testBit_eq
    intro t
    by_cases ht : t < 8
    · exact h t ht
    · rw [Nat.testBit_lt_two_pow (Nat.lt_of_lt_of_le (show a.toNat < 2 ^ 8 by omega) (Nat.pow_le_pow_right (by omega) (by omega))), Nat.testBit_lt_two_pow (Nat.lt_of_lt_of_le (show b.toNat < 2 ^ 8 by omega) (Nat.pow_le_pow_right (by omega) (by omega)))]
  omega
theorem Wr.unique {bs cs : List Int} {bits : List Bool} (h : Wr bs bits) (h' : Wr cs bits) : bs = cs := by
  apply List.ext_getElem (by rw [h.1, h'.1])
  intro j h1 h2
  have e1 : bs.getD j 0 = bs[j] := by simp [h1]
  have e2 : cs.getD j 0 = cs[j] := by simp [h2]
  rw [← e1, ← e2]
  exact byte_ext (h.bd j) (h'.bd j) fun t ht => by rw [h.2.2 j t h1 ht, h'.2.2 j t h2 ht]

/-- The slot for the next bit is there. -/
def room (bs : List Int) (n : Nat) : List Int := if n % 8 = 0 then bs ++ [0] else bs
theorem Wr.roomLen {bs : List Int} {bits : List Bool} (h : Wr bs bits) : (room bs bits.length).length = bits.length / 8 + 1 := by
  unfold room; have := h.1
  split
  · simp; omega
  · omega
theorem Wr.roomBd {bs : List Int} {bits : List Bool} (h : Wr bs bits) : ∀ b ∈ room bs bits.length, 0 ≤ b ∧ b ≤ 255 := by
  unfold room
  split
  · intro b hb; rcases List.mem_append.1 hb with hb | hb
    · exact h.2.1 b hb
    · simp at hb; subst hb; omega
  · exact h.2.1
theorem Wr.roomBit {bs : List Int} {bits : List Bool} (h : Wr bs bits) {j t : Nat} (hj : j < bits.length / 8 + 1) (ht : t < 8) : ((room bs bits.length).getD j 0).toNat.testBit t = bits.getD (8 * j + t) false := by
  have hl := h.1
  unfold room
  split
  · rename_i hm
    by_cases hjl : j < bs.length
    · have : (bs ++ [0]).getD j 0 = bs.getD j 0 := by simp [List.getD_eq_getElem?_getD, List.getElem?_append_left hjl]
      rw [this]; exact h.2.2 j t hjl ht
    · have hjl' : j = bs.length := by omega
      subst hjl'
      have : (bs ++ [0]).getD bs.length 0 = (0 : Int) := by simp
      rw [this, List.getD_eq_getElem?_getD, List.getElem?_eq_none (by omega)]
      simp
  · exact h.2.2 j t (by omega) ht
theorem pow_bit (t u : Nat) : (2 ^ t).testBit u = decide (t = u) := by rw [Nat.testBit_two_pow]
theorem pow_le_255 {t : Nat} (h : t < 8) : 2 ^ t ≤ 128 := by
  have := Nat.pow_le_pow_right (show 0 < 2 by omega) (show t ≤ 7 by omega)
  omega
theorem Wr.step {bs : List Int} {bits : List Bool} (h : Wr bs bits) (b : Bool) {x : Int} (hx : x = if b then ((2 ^ (bits.length % 8) : Nat) : Int) else 0) :
    Wr ((room bs bits.length).set (bits.length / 8) (bOr .u8 ((room bs bits.length).getD (bits.length / 8) 0) x)) (bits ++ [b]) := by
  have hrl := h.roomLen
  have ht8 : bits.length % 8 < 8 := Nat.mod_lt _ (by omega)
  have hp := pow_le_255 ht8
  have hxb : 0 ≤ x ∧ x ≤ 255 := by
    subst hx
    generalize 2 ^ (bits.length % 8) = p at hp
    split <;> omega
  have hob : 0 ≤ (room bs bits.length).getD (bits.length / 8) 0 ∧ (room bs bits.length).getD (bits.length / 8) 0 ≤ 255 := h.roomBd _ (getD_mem (by omega))
  refine ⟨by simp [hrl]; omega, ?_, ?_⟩
  · intro c hc
    rcases List.mem_or_eq_of_mem_set hc with hc | rfl
    · exact h.roomBd c hc
    · rw [bOr_u8 hob hxb]
      have : ((room bs bits.length).getD (bits.length / 8) 0).toNat ||| x.toNat < 2 ^ 8 := Nat.or_lt_two_pow (by omega) (by omega)
      omega
  · intro j t hj ht
    rw [List.length_set, hrl] at hj
    have hr := h.roomBit hj ht
    by_cases hjn : j = bits.length / 8
    · subst hjn
      have e1 : ((room bs bits.length).set (bits.length / 8) (bOr .u8 ((room bs bits.length).getD (bits.length / 8) 0) x)).getD (bits.length / 8) 0 = bOr .u8 ((room bs bits.length).getD (bits.length / 8) 0) x := by
        simp [List.getD_eq_getElem?_getD, hrl]
      rw [e1, bOr_u8 hob hxb, Int.toNat_natCast, Nat.testBit_or, hr]
      have hxt : x.toNat.testBit t = (b && decide (bits.length % 8 = t)) := by
        subst hx
        cases b
        · simp
        · simp only [if_true, Int.toNat_natCast, pow_bit, Bool.true_and]
      rw [hxt]
      by_cases htt : bits.length % 8 = t
      · have hidx : 8 * (bits.length / 8) + t = bits.length := by omega
        rw [hidx]
        simp [htt]
      · have hne : 8 * (bits.length / 8) + t ≠ bits.length := by omega
        simp only [htt, decide_false, Bool.and_false, Bool.or_false]
        simp only [List.getD_eq_getElem?_getD, List.getElem?_append]
        split
        · rfl
        · rename_i hh
          rw [List.getElem?_eq_none (by omega), List.getElem?_eq_none (by simp; omega)]
    · have e1 : ((room bs bits.length).set (bits.length / 8) (bOr .u8 ((room bs bits.length).getD (bits.length / 8) 0) x)).getD j 0 = (room bs bits.length).getD j 0 := by
        simp [List.getD_eq_getElem?_getD, Ne.symm hjn]
      rw [e1, hr]
      simp only [List.getD_eq_getElem?_getD, List.getElem?_append]
      rw [if_pos (by omega)]

/-- The n lowest bits of a number, the lowest first. -/
def bitsOf (v : Int) (n : Nat) : List Bool := (List.range n).map fun i => v.toNat.testBit i
theorem bitsOf_zero (v : Int) : bitsOf v 0 = [] := rfl
theorem bitsOf_succ (v : Int) (n : Nat) : bitsOf v (n + 1) = bitsOf v n ++ [v.toNat.testBit n] := by simp [bitsOf, List.range_succ]
theorem bitsOf_len (v : Int) (n : Nat) : (bitsOf v n).length = n := by simp [bitsOf]
/-- A number's bit as the code takes it: shifted down, masked, made a byte, shifted up. -/
theorem bit_byte {v : Int} (hv : 0 ≤ v ∧ v ≤ 18446744073709551615) {i t : Nat} (hi : i < 64) (ht : t < 8) :
    IntKind.u8.wrap (IntKind.u8.wrap (bAnd .u64 (v.fdiv (2 ^ (min i 64))) 1) * 2 ^ (min t 8)) = if v.toNat.testBit i then ((2 ^ t : Nat) : Int) else 0 := by
  obtain ⟨n, rfl⟩ := Int.eq_ofNat_of_zero_le hv.1
  rw [show min i 64 = i by omega, show min t 8 = t by omega]
  have h1 : (n : Int).fdiv (2 ^ i) = ((n / 2 ^ i : Nat) : Int) := by
    rw [Int.fdiv_eq_ediv_of_nonneg _ (Int.le_of_lt (Int.pow_pos (by omega)))]
    simp
  rw [h1]
  have h2 : n / 2 ^ i ≤ n := Nat.div_le_self _ _
  rw [bAnd_one rfl ⟨Int.natCast_nonneg _, Int.le_trans (Int.ofNat_le.2 h2) hv.2⟩]
  have h3 : ((n / 2 ^ i : Nat) : Int) % 2 = if n.testBit i then 1 else 0 := by
    rw [Nat.testBit_eq_decide_div_mod_eq]
    by_cases hh : n / 2 ^ i % 2 = 1
    · rw [if_pos (by simpa using hh)]; omega
    · rw [if_neg (by simpa using hh)]; omega
  rw [h3, Int.toNat_natCast]
  have hp := pow_le_255 ht
  split
  · rw [wrap_in (k := .u8) (n := 1) (by simp only [inK]; omega), Int.one_mul, wrap_in (k := .u8)]
    · simp
    · have : (2 : Int) ^ t = ((2 ^ t : Nat) : Int) := by simp
      rw [this]; simp only [inK]; generalize 2 ^ t = p at hp; omega
  · rw [wrap_in (k := .u8) (n := 0) (by simp only [inK]; omega), Int.zero_mul]; rfl
end Go.Proofs.Ytoigljcmpicgfaa.K
