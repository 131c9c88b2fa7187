/- Plain laws: numbers in groups of bits, and differences of lists, as they are read. No condition. -/
import Derived.Test.YtoigljcmpicgfaaB6
namespace Go.Proofs.Ytoigljcmpicgfaa.K
open Go.RowKit

/-- The bits that lie at a place. -/
def bitsAt (bs : List Int) (N p : Nat) (l : List Bool) : Prop := p + l.length ≤ N ∧ ∀ j, j < l.length → bitAt bs (p + j) = l.getD j false
theorem bitsAt_mid {bs : List Int} {N p : Nat} {a b c : List Bool} (h : bitsAt bs N p (a ++ b ++ c)) : bitsAt bs N (p + a.length) b := by
  obtain ⟨h1, h2⟩ := h
  simp only [List.length_append] at h1
  refine ⟨by omega, fun j hj => ?_⟩
  have := h2 (a.length + j) (by simp only [List.length_append]; omega)
  rw [List.append_assoc, getD_app_r, getD_app_l hj] at this
  rw [Nat.add_assoc]; exact this
theorem natBits_pre (v : Nat) {i : Nat} : ∀ {g : Nat}, i ≤ g → ∃ t, natBits v g = natBits v i ++ t
  | 0, h => ⟨[], by rw [show i = 0 by omega]; rfl⟩
  | g + 1, h => by
    by_cases e : i = g + 1
    · exact ⟨[], by rw [e, List.append_nil]⟩
    · obtain ⟨t, ht⟩ := natBits_pre v (show i ≤ g by omega)
      exact ⟨t ++ (bitsOf (v / 16 ^ g : Nat) 4 ++ [decide (v / 16 ^ (g + 1) ≠ 0)]), by rw [natBits_succ, ht, List.append_assoc]⟩
/-- The five bits of a group. -/
theorem num5 {bs : List Int} {N p w i : Nat} (h : bitsAt bs N p (natB w)) (hi : i < grp w) : (num bs (p + 5 * i) 5 : Nat) = w / 16 ^ i % 16 + (if w / 16 ^ (i + 1) ≠ 0 then 16 else 0) := by
  obtain ⟨t, ht⟩ := natBits_pre w (show i + 1 ≤ grp w from hi)
  unfold natB at h
  rw [ht, natBits_succ] at h
  have hm := bitsAt_mid h
  rw [natBits_len] at hm
  by_cases hz : w / 16 ^ (i + 1) ≠ 0
  · rw [if_pos hz]
    rw [decide_eq_true hz, ← bits5'] at hm
    have := num_of (bs := bs) (p := p + 5 * i) (k := 5) (v := ((w / 16 ^ i % 16 + 16 : Nat) : Int)) (by omega) (fun j hj => by rw [hm.2 j (by rw [bitsOf_len]; exact hj), bitsOf_getD hj])
    exact_mod_cast this
  · rw [if_neg hz]
    rw [decide_eq_false hz, ← bits5] at hm
    have := num_of (bs := bs) (p := p + 5 * i) (k := 5) (v := ((w / 16 ^ i % 16 : Nat) : Int)) (by omega) (fun j hj => by rw [hm.2 j (by rw [bitsOf_len]; exact hj), bitsOf_getD hj])
    rw [Nat.add_zero]
    exact_mod_cast this
theorem at_len {bs : List Int} {N p w i : Nat} (h : bitsAt bs N p (natB w)) (hi : i < grp w) : p + 5 * i + 5 ≤ N := by
  have := h.1; rw [natB_len] at this; omega
/-- What is read of the groups before place i. -/
def accOK (bs : List Int) (N p i : Nat) (acc : Int) : Prop := ∀ w, w < 18446744073709551616 → bitsAt bs N p (natB w) → i < grp w ∧ acc = (w % 16 ^ i : Nat)
theorem acc_zero (bs : List Int) (N p : Nat) : accOK bs N p 0 0 := fun w _ _ => ⟨(grp_is w).1, by rw [Nat.pow_zero, Nat.mod_one]; rfl⟩
theorem acc_val {w i : Nat} (hw : w < 18446744073709551616) (hi : i ≤ 15) {v5 : Nat} (hv : v5 = w / 16 ^ i % 16 + (if w / 16 ^ (i + 1) ≠ 0 then 16 else 0)) :
    bOr .u64 (w % 16 ^ i : Nat) (IntKind.u64.wrap (bAnd .u64 (v5 : Int) 15 * 2 ^ (min ((4 * (i : Int)).toNat) 64))) = (w % 16 ^ (i + 1) : Nat) := by
  have h5 : v5 < 32 := by rw [hv]; split <;> omega
  have h16 : v5 % 16 = w / 16 ^ i % 16 := by rw [hv]; split <;> omega
  rw [and15 (by omega), h16, show min (4 * (i : Int)).toNat 64 = 4 * i by omega]
  have hp : 16 ^ i * 16 ≤ 18446744073709551616 := by
    have := Nat.pow_le_pow_right (show 0 < 16 by omega) (show i + 1 ≤ 16 by omega)
    rw [Nat.pow_succ] at this
    exact Nat.le_trans this (by decide)
  have hd : w / 16 ^ i % 16 < 16 := Nat.mod_lt _ (by omega)
  have e16 : (2 : Nat) ^ (4 * i) = 16 ^ i := by rw [Nat.pow_mul]
  have hm : w % 16 ^ i < 16 ^ i := Nat.mod_lt _ (Nat.pow_pos (by omega))
  have hq : w / 16 ^ i % 16 * 16 ^ i ≤ 15 * 16 ^ i := Nat.mul_le_mul_right _ (by omega)
  have e1 : ((w / 16 ^ i % 16 : Nat) : Int) * 2 ^ (4 * i) = ((w / 16 ^ i % 16 * 16 ^ i : Nat) : Int) := by rw [← e16]; simp
  rw [e1, wrap_in (k := .u64) (by simp only [inK]; generalize 16 ^ i = z at *; generalize w / z % 16 = q at *; omega)]
  rw [bOr_u64 ⟨by omega, by generalize 16 ^ i = z at *; omega⟩ ⟨by omega, by generalize 16 ^ i = z at *; generalize w / z % 16 = q at *; omega⟩, Int.toNat_natCast, Int.toNat_natCast, Nat.mod_pow_succ]
  have := Nat.two_pow_add_eq_or_of_lt (i := 4 * i) (b := w % 16 ^ i) (by rw [e16]; exact hm) (w / 16 ^ i % 16)
  rw [e16] at this
  rw [Nat.or_comm, Nat.mul_comm, ← this, Nat.add_comm]
theorem acc_step {bs : List Int} {N p i : Nat} {acc : Int} (h : accOK bs N p i acc) (hi : i ≤ 15) (hN : ¬ N < p + 5 * i + 5) (hc : ¬ gv bs N (p + 5 * i) 5 < 16) :
    accOK bs N p (i + 1) (bOr .u64 acc (IntKind.u64.wrap (bAnd .u64 (gv bs N (p + 5 * i) 5) 15 * 2 ^ (min ((4 * (i : Int)).toNat) 64)))) := by
  intro w hw hb
  obtain ⟨h1, h2⟩ := h w hw hb
  have h5 := num5 hb h1
  unfold gv at hc ⊢
  rw [if_neg hN] at hc ⊢
  rw [h2, acc_val hw hi h5]
  refine ⟨?_, rfl⟩
  have hz : w / 16 ^ (i + 1) ≠ 0 := by
    intro hz
    rw [if_neg (fun hh => hh hz)] at h5
    have : w / 16 ^ i % 16 < 16 := Nat.mod_lt _ (by omega)
    omega
  by_cases e : i + 1 = grp w
  · rw [e] at hz; exact absurd (grp_is w).2.1 hz
  · omega
/-- What a reader of numbers answers, where a number lies. -/
def natRd (bs : List Int) (N p : Nat) (v er : Int) (p' : Nat) : Prop := ∀ w, w < 18446744073709551616 → bitsAt bs N p (natB w) → er = 0 ∧ v = (w : Int) ∧ p' = p + (natB w).length
theorem acc_done {bs : List Int} {N p i : Nat} {acc : Int} (h : accOK bs N p i acc) (hi : i ≤ 15) (hN : ¬ N < p + 5 * i + 5) (hc : gv bs N (p + 5 * i) 5 < 16) :
    natRd bs N p (bOr .u64 acc (IntKind.u64.wrap (bAnd .u64 (gv bs N (p + 5 * i) 5) 15 * 2 ^ (min ((4 * (i : Int)).toNat) 64)))) 0 (p + 5 * i + 5) := by
  intro w hw hb
  obtain ⟨h1, h2⟩ := h w hw hb
  have h5 := num5 hb h1
  unfold gv at hc ⊢
  rw [if_neg hN] at hc ⊢
  rw [h2, acc_val hw hi h5]
  have hz : w / 16 ^ (i + 1) = 0 := by
    by_cases hz : w / 16 ^ (i + 1) = 0
    · exact hz
    · rw [if_pos hz] at h5; omega
  have e : grp w = i + 1 := isGrp_unique (grp_is w) ⟨by omega, hz, fun j hj1 hj2 => (grp_is w).2.2 j hj1 (by omega)⟩
  refine ⟨rfl, ?_, by rw [natB_len, e]; omega⟩
  congr 1
  have := Nat.div_add_mod w (16 ^ (i + 1))
  rw [hz] at this; omega
theorem acc_short {bs : List Int} {N p i : Nat} {acc v er : Int} {p' : Nat} (h : accOK bs N p i acc) (hN : N < p + 5 * i + 5) : natRd bs N p v er p' := by
  intro w hw hb
  have := at_len hb (h w hw hb).1
  omega
theorem acc_long {bs : List Int} {N p i : Nat} {acc v er : Int} {p' : Nat} (h : accOK bs N p i acc) (hi : i = 16) : natRd bs N p v er p' := by
  intro w hw hb
  have h1 := (h w hw hb).1
  have h2 := (grp_le hw).2
  omega
theorem acc_nil {bs : List Int} {N p i : Nat} {acc v er : Int} {p' : Nat} (h : accOK bs N p i acc) (hN : ¬ N < p + 5 * i + 5) (h0 : gv bs N (p + 5 * i) 5 = 0) (hi : 0 < i) : natRd bs N p v er p' := by
  intro w hw hb
  obtain ⟨h1, h2⟩ := h w hw hb
  have h5 := num5 hb h1
  unfold gv at h0
  rw [if_neg hN] at h0
  exfalso
  have hz : w / 16 ^ (i + 1) = 0 := by
    by_cases hz : w / 16 ^ (i + 1) = 0
    · exact hz
    · rw [if_pos hz] at h5; omega
  rw [if_neg (fun hh => hh hz)] at h5
  have h6 : w / 16 ^ i ≠ 0 := (grp_is w).2.2 i hi h1
  have h7 : w / 16 ^ i / 16 = 0 := by rw [Nat.div_div_eq_div_mul, ← Nat.pow_succ]; exact hz
  omega
/-- A signed number, read. -/
theorem unzz {d : Int} (h : inK .i64 d) : IntKind.i64.wrap (bXor .u64 ((zz d : Int).fdiv (2 ^ (min ((1 : Int).toNat) 64))) (IntKind.u64.wrap (-(bAnd .u64 (zz d : Int) 1)))) = d := by
  have hz := zz_lt h
  have hd := h
  simp only [inK] at hd
  rw [bAnd_one rfl ⟨by omega, by omega⟩, show min (1 : Int).toNat 64 = 1 from rfl, Int.fdiv_eq_ediv_of_nonneg _ (by decide), wrap_u64]
  unfold zz at hz ⊢
  by_cases h0 : 0 ≤ d
  · rw [if_pos h0] at hz ⊢
    rw [show ((2 * d).toNat : Int) % 2 = 0 by omega, show -(0 : Int) % 18446744073709551616 = 0 by decide, show ((2 * d).toNat : Int) / 2 ^ 1 = ((d.toNat : Nat) : Int) by omega, xor_zero64 (by omega)]
    rw [wrap_in (k := .i64) (by simp only [inK]; omega)]; omega
  · rw [if_neg h0] at hz ⊢
    rw [show ((-2 * d - 1).toNat : Int) % 2 = 1 by omega, show -(1 : Int) % 18446744073709551616 = 18446744073709551615 by decide, show ((-2 * d - 1).toNat : Int) / 2 ^ 1 = (((-d - 1).toNat : Nat) : Int) by omega, xor_ones (by omega)]
    rw [IntKind.wrap_i64]
    omega
end Go.Proofs.Ytoigljcmpicgfaa.K
