/- Plain laws of frames of inputs that are read from bits. No condition. -/
import Derived.Test.YtoigljcmpicgfaaB2
import Derived.Test.YtoigljcmpicgfaaI3
namespace Go.Proofs.Ytoigljcmpicgfaa.K
open Go.RowKit

/-- One input, read at a place of so many bits, relative to the one before: the input and the place behind. -/
def oneF (bs : List Int) (N p : Nat) (y : Inp) : Option (Inp × Nat) :=
  if N < p + 1 then none
  else if bitAt bs p = false then some (y, p + 1)
  else if N < p + 10 then none
  else if bitAt bs (p + 9) = false then some (⟨bXor .i64 (num bs (p + 1) 8) y.k, y.x, y.y⟩, p + 10)
  else if N < p + 26 then none
  else some (⟨bXor .i64 (num bs (p + 1) 8) y.k, num bs (p + 10) 8 - 128, num bs (p + 18) 8 - 128⟩, p + 26)
theorem num8 (bs : List Int) (p : Nat) : 0 ≤ (num bs p 8 : Int) ∧ (num bs p 8 : Int) ≤ 255 := by
  have := num_lt bs p 8; omega
theorem oneF_ok {bs : List Int} {N p : Nat} {y x : Inp} {p' : Nat} (hy : y.ok) (h : oneF bs N p y = some (x, p')) : x.ok ∧ p < p' ∧ p' ≤ N := by
  have hk := ok_k hy
  have hx := ok_x hy
  have hyy := ok_y hy
  have h1 := xor_bd (num8 bs (p + 1)) hk
  have h2 := num8 bs (p + 10)
  have h3 := num8 bs (p + 18)
  unfold oneF at h
  split at h
  · cases h
  · split at h
    · cases h; exact ⟨hy, by omega, by omega⟩
    · split at h
      · cases h
      · split at h
        · cases h; exact ⟨⟨h1.1, h1.2, hx.1, hx.2, hyy.1, hyy.2⟩, by omega, by omega⟩
        · split at h
          · cases h
          · cases h; exact ⟨⟨h1.1, h1.2, by dsimp only; omega, by dsimp only; omega, by dsimp only; omega, by dsimp only; omega⟩, by omega, by omega⟩
/-- More bytes behind, the same bits before. -/
theorem oneF_mono {bs cs : List Int} {N M p : Nat} {y : Inp} {r : Inp × Nat} (h : oneF bs N p y = some r) (hN : N ≤ M) (he : ∀ j, j < N → bitAt bs j = bitAt cs j) : oneF cs M p y = some r := by
  unfold oneF at h
  split at h
  · cases h
  · rename_i h1
    unfold oneF
    rw [if_neg (by omega), ← he p (by omega)]
    split at h
    · rename_i h2; rw [if_pos h2]; exact h
    · rename_i h2
      rw [if_neg h2]
      split at h
      · cases h
      · rename_i h3
        have e1 : num cs (p + 1) 8 = num bs (p + 1) 8 := (num_congr fun i hi => he _ (by omega)).symm
        rw [if_neg (by omega), ← he (p + 9) (by omega), e1]
        split at h
        · rename_i h4; rw [if_pos h4]; exact h
        · rename_i h4
          rw [if_neg h4]
          split at h
          · cases h
          · have e2 : num cs (p + 10) 8 = num bs (p + 10) 8 := (num_congr fun i hi => he _ (by omega)).symm
            have e3 : num cs (p + 18) 8 = num bs (p + 18) 8 := (num_congr fun i hi => he _ (by omega)).symm
            rw [if_neg (by omega), e2, e3]; exact h
/-- The inputs of a frame, read one after another. -/
def unTo (bs : List Int) (N : Nat) (l : List Inp) : Nat → Option (List Inp × Nat)
  | 0 => some ([], 0)
  | k + 1 => match unTo bs N l k with
    | none => none
    | some (xs, p) => match oneF bs N p (l.getD k default) with
      | none => none
      | some (x, p') => some (xs ++ [x], p')
theorem unTo_step {bs : List Int} {N : Nat} {l : List Inp} {k : Nat} {xs : List Inp} {p : Nat} {x : Inp} {p' : Nat} (h : unTo bs N l k = some (xs, p)) (h1 : oneF bs N p (l.getD k default) = some (x, p')) : unTo bs N l (k + 1) = some (xs ++ [x], p') := by
  simp only [unTo, h, h1]
theorem unTo_fail {bs : List Int} {N : Nat} {l : List Inp} {k : Nat} {xs : List Inp} {p : Nat} (h : unTo bs N l k = some (xs, p)) (h1 : oneF bs N p (l.getD k default) = none) : unTo bs N l (k + 1) = none := by
  simp only [unTo, h, h1]
theorem unTo_none {bs : List Int} {N : Nat} {l : List Inp} {k : Nat} (h : unTo bs N l k = none) : ∀ {n : Nat}, k ≤ n → unTo bs N l n = none
  | 0, hn => by rw [show k = 0 by omega] at h; cases h
  | n + 1, hn => by
    by_cases e : k = n + 1
    · rw [← e]; exact h
    · simp only [unTo, unTo_none h (show k ≤ n by omega)]
theorem unTo_ok {bs : List Int} {N : Nat} {l : List Inp} (hl : ∀ i ∈ l, i.ok) : ∀ {k : Nat} {xs : List Inp} {p : Nat}, k ≤ l.length → unTo bs N l k = some (xs, p) → xs.length = k ∧ p ≤ N ∧ ∀ i ∈ xs, i.ok
  | 0, xs, p, _, h => by simp only [unTo] at h; cases h; exact ⟨rfl, Nat.zero_le _, by simp⟩
  | k + 1, xs, p, hk, h => by
    simp only [unTo] at h
    split at h
    · cases h
    · rename_i ys q hq
      split at h
      · cases h
      · rename_i x p' h1
        cases h
        obtain ⟨e1, e2, e3⟩ := unTo_ok hl (by omega) hq
        have h2 := oneF_ok (hl _ (getD_mem (by omega))) h1
        refine ⟨by simp [e1], h2.2.2, ?_⟩
        intro i hi
        rcases List.mem_append.1 hi with hi | hi
        · exact e3 i hi
        · simp at hi; rw [hi]; exact h2.1
theorem unTo_mono {bs cs : List Int} {N M : Nat} {l : List Inp} (hN : N ≤ M) (he : ∀ j, j < N → bitAt bs j = bitAt cs j) : ∀ {k : Nat} {r : List Inp × Nat}, unTo bs N l k = some r → unTo cs M l k = some r
  | 0, r, h => h
  | k + 1, r, h => by
    simp only [unTo] at h ⊢
    split at h
    · cases h
    · rename_i ys q hq
      rw [unTo_mono hN he hq]
      split at h
      · cases h
      · rename_i x p' h1
        simp only [oneF_mono h1 hN he]; exact h
theorem getD_app_l {α : Type} {a b : List α} {d : α} {i : Nat} (h : i < a.length) : (a ++ b).getD i d = a.getD i d := by simp [List.getD_eq_getElem?_getD, List.getElem?_append_left h]
theorem getD_app_r {α : Type} {a b : List α} {d : α} {i : Nat} : (a ++ b).getD (a.length + i) d = b.getD i d := by simp [List.getD_eq_getElem?_getD, List.getElem?_append_right]
theorem bitsOf_getD {v : Int} {n i : Nat} (h : i < n) : (bitsOf v n).getD i false = v.toNat.testBit i := by
  simp [bitsOf, List.getD_eq_getElem?_getD, h]
theorem bXor_back {a b : Int} (ha : 0 ≤ a ∧ a ≤ 255) (hb : 0 ≤ b ∧ b ≤ 255) : bXor .i64 (bXor .i64 a b) b = a := by
  have hx : ∀ {a b : Int}, 0 ≤ a ∧ a ≤ 255 → 0 ≤ b ∧ b ≤ 255 → bXor .i64 a b = ((a.toNat ^^^ b.toNat : Nat) : Int) := by
    intro a b ha hb
    unfold bXor
    have h1 := ofInt_toNat 64 a ha.1 (by omega)
    have h2 := ofInt_toNat 64 b hb.1 (by omega)
    have h3 : a.toNat ^^^ b.toNat < 2 ^ 8 := Nat.xor_lt_two_pow (by omega) (by omega)
    rw [show IntKind.i64.bits = 64 from rfl, BitVec.toNat_xor, h1, h2]
    exact wrap_in (k := .i64) (by simp only [inK]; omega)
  have hab := xor_bd ha hb
  rw [hx hab hb, hx ha hb, Int.toNat_natCast, Nat.xor_assoc, Nat.xor_self, Nat.xor_zero]
  omega
/-- What was packed is read. -/
theorem oneF_enc {bs : List Int} {N p : Nat} {y x : Inp} (hy : y.ok) (hx : x.ok) (hN : p + (oneBits y x).length ≤ N) (hb : ∀ i, i < (oneBits y x).length → bitAt bs (p + i) = (oneBits y x).getD i false) : oneF bs N p y = some (x, p + (oneBits y x).length) := by
  have hkx := ok_k hx
  have hky := ok_k hy
  have hxx := ok_x hx
  have hxy := ok_y hx
  have hxo := xor_bd hkx hky
  unfold oneBits at hN hb ⊢
  by_cases e : x = y
  · rw [if_pos e] at hN hb ⊢
    simp only [bitsOf_len] at hN hb ⊢
    unfold oneF
    have := hb 0 (by omega)
    rw [bitsOf_getD (by omega)] at this
    rw [if_neg (by omega), if_pos (by simpa using this), e]
  · rw [if_neg e] at hN hb ⊢
    by_cases e2 : x.x = y.x ∧ x.y = y.y
    · rw [if_pos e2] at hN hb ⊢
      simp only [List.length_append, bitsOf_len] at hN hb ⊢
      have h0 := hb 0 (by omega)
      rw [List.append_assoc, getD_app_l (by simp [bitsOf_len]), bitsOf_getD (by omega)] at h0
      have h9 := hb 9 (by omega)
      rw [show (9 : Nat) = (bitsOf 1 1 ++ bitsOf (bXor .i64 x.k y.k) 8).length + 0 by simp [bitsOf_len], getD_app_r, bitsOf_getD (by omega)] at h9
      simp only [List.length_append, bitsOf_len] at h9
      have hk : ((num bs (p + 1) 8 : Nat) : Int) = bXor .i64 x.k y.k := num_of ⟨hxo.1, by omega⟩ fun i hi => by
        have := hb (1 + i) (by omega)
        rw [← Nat.add_assoc] at this
        rw [this, List.append_assoc, show 1 + i = (bitsOf 1 1).length + i by simp [bitsOf_len], getD_app_r, getD_app_l (by simp [bitsOf_len]; omega), bitsOf_getD hi]
      unfold oneF
      rw [if_neg (by omega), if_neg (by rw [show p = p + 0 from rfl, h0]; decide), if_neg (by omega), if_pos (by rw [h9]; decide), hk, bXor_back hkx hky]
      have : (⟨x.k, y.x, y.y⟩ : Inp) = x := by cases x; simp_all
      rw [this]
    · rw [if_neg e2] at hN hb ⊢
      simp only [List.length_append, bitsOf_len] at hN hb ⊢
      have h0 := hb 0 (by omega)
      rw [List.append_assoc, getD_app_l (by simp [bitsOf_len]), bitsOf_getD (by omega)] at h0
      have h9 := hb 9 (by omega)
      rw [show (9 : Nat) = (bitsOf 1 1 ++ bitsOf (bXor .i64 x.k y.k) 8).length + 0 by simp [bitsOf_len], getD_app_r, List.append_assoc, getD_app_l (by simp [bitsOf_len]), bitsOf_getD (by omega)] at h9
      simp only [List.length_append, bitsOf_len] at h9
      have hk : ((num bs (p + 1) 8 : Nat) : Int) = bXor .i64 x.k y.k := num_of ⟨hxo.1, by omega⟩ fun i hi => by
        have := hb (1 + i) (by omega)
        rw [← Nat.add_assoc] at this
        rw [this, List.append_assoc, show 1 + i = (bitsOf 1 1).length + i by simp [bitsOf_len], getD_app_r, getD_app_l (by simp [bitsOf_len]; omega), bitsOf_getD hi]
      have hX : ((num bs (p + 10) 8 : Nat) : Int) = x.x + 128 := num_of ⟨by omega, by omega⟩ fun i hi => by
        have := hb (10 + i) (by omega)
        rw [← Nat.add_assoc] at this
        rw [this, show 10 + i = (bitsOf 1 1 ++ bitsOf (bXor .i64 x.k y.k) 8).length + (1 + i) by simp [bitsOf_len]; omega, getD_app_r, List.append_assoc, show 1 + i = (bitsOf 1 1).length + i by simp [bitsOf_len], getD_app_r, getD_app_l (by simp [bitsOf_len]; omega), bitsOf_getD hi]
      have hY : ((num bs (p + 18) 8 : Nat) : Int) = x.y + 128 := num_of ⟨by omega, by omega⟩ fun i hi => by
        have := hb (18 + i) (by omega)
        rw [← Nat.add_assoc] at this
        rw [this, show 18 + i = (bitsOf 1 1 ++ bitsOf (bXor .i64 x.k y.k) 8).length + (9 + i) by simp [bitsOf_len]; omega, getD_app_r, show 9 + i = (bitsOf 1 1 ++ bitsOf (x.x + 128) 8).length + i by simp [bitsOf_len], getD_app_r, bitsOf_getD hi]
      unfold oneF
      rw [if_neg (by omega), if_neg (by rw [show p = p + 0 from rfl, h0]; decide), if_neg (by omega), if_neg (by rw [h9]; decide), if_neg (by omega), hk, bXor_back hkx hky, hX, hY]
      have : (⟨x.k, x.x + 128 - 128, x.y + 128 - 128⟩ : Inp) = x := by cases x; simp
      rw [this]
theorem Wr.bit {bs : List Int} {bits : List Bool} (h : Wr bs bits) {j : Nat} (hj : j < 8 * bs.length) : bitAt bs j = bits.getD j false := by
  have := h.2.2 (j / 8) (j % 8) (by omega) (Nat.mod_lt _ (by omega))
  rw [show 8 * (j / 8) + j % 8 = j by omega] at this
  exact this
theorem packTo_pre (b n : List Inp) {j : Nat} : ∀ {k : Nat}, j ≤ k → ∃ t, packTo b n k = packTo b n j ++ t
  | 0, h => ⟨[], by rw [show j = 0 by omega]; simp⟩
  | k + 1, h => by
    by_cases e : j = k + 1
    · exact ⟨[], by rw [e]; simp⟩
    · obtain ⟨t, ht⟩ := packTo_pre b n (show j ≤ k by omega)
      exact ⟨t ++ oneBits (b.getD k default) (n.getD k default), by rw [packTo_succ, ht, List.append_assoc]⟩
theorem unTo_enc {bs : List Int} {l l' : List Inp} {n : Nat} (h : Wr bs (packTo l l' n)) (hl : ∀ i ∈ l, i.ok) (hl' : ∀ i ∈ l', i.ok) (hn : n ≤ l.length) (hn' : n ≤ l'.length) : ∀ {k : Nat}, k ≤ n → unTo bs (8 * bs.length) l k = some (l'.take k, (packTo l l' k).length)
  | 0, _ => by simp [unTo, packTo_zero]
  | k + 1, hk => by
    have ih := unTo_enc h hl hl' hn hn' (show k ≤ n by omega)
    obtain ⟨t, ht⟩ := packTo_pre l l' hk
    have hlen := h.1
    have hle : (packTo l l' (k + 1)).length ≤ (packTo l l' n).length := by rw [ht]; simp
    have hs := packTo_succ l l' k
    have hs2 : (packTo l l' (k + 1)).length = (packTo l l' k).length + (oneBits (l.getD k default) (l'.getD k default)).length := by rw [hs, List.length_append]
    have h1 := oneF_enc (bs := bs) (N := 8 * bs.length) (p := (packTo l l' k).length) (y := l.getD k default) (x := l'.getD k default) (hl _ (getD_mem (by omega))) (hl' _ (getD_mem (by omega))) (by omega) (fun i hi => by
      rw [h.bit (by omega), ht, getD_app_l (by omega), hs, getD_app_r])
    rw [unTo_step ih h1, hs2]
    congr 2
    rw [List.take_add_one]
    congr 1
    rw [List.getD_eq_getElem?_getD, List.getElem?_eq_getElem (show k < l'.length by omega)]
    simp
/-- The answers of the four reads, as the code asks them. -/
def oneOK (bs : List Int) (N p : Nat) (y x : Inp) (er : Int) (p' : Nat) : Prop := p' ≤ N ∧ ((er = 14 ∧ oneF bs N p y = none) ∨ (er = 0 ∧ oneF bs N p y = some (x, p')))
theorem oneA {bs : List Int} {N p : Nat} {y : Inp} (hp : p ≤ N) (h : gv bs N p 1 = 0) : oneOK bs N p y y (eu 0 (ge N p 1)) (gp N p 1) := by
  refine ⟨gp_le hp, ?_⟩
  unfold gv at h; unfold ge gp oneF eu
  rw [num_one] at h
  by_cases h1 : N < p + 1
  · simp [h1]
  · rw [if_neg h1] at h
    have : bitAt bs p = false := by cases hb : bitAt bs p <;> simp_all
    simp [h1, this]
theorem oneA' {bs : List Int} {N p : Nat} (h : ¬ gv bs N p 1 = 0) : ¬ N < p + 1 ∧ bitAt bs p = true ∧ ge N p 1 = 0 ∧ gp N p 1 = p + 1 := by
  unfold gv at h; unfold ge gp
  rw [num_one] at h
  by_cases h1 : N < p + 1
  · rw [if_pos h1] at h; exact absurd rfl h
  · rw [if_neg h1] at h
    refine ⟨h1, ?_, by rw [if_neg h1], by rw [if_neg h1]⟩
    cases hb : bitAt bs p
    · rw [hb] at h; simp at h
    · rfl
theorem oneB {bs : List Int} {N p : Nat} {y : Inp} (hp : p ≤ N) (h : ¬ gv bs N p 1 = 0)
    (h2 : ¬ (gv bs N (gp N (gp N p 1) 8) 1 = 1 ∧ eu (eu (eu 0 (ge N p 1)) (ge N (gp N p 1) 8)) (ge N (gp N (gp N p 1) 8) 1) = 0)) :
    oneOK bs N p y ⟨bXor .i64 (gv bs N (gp N p 1) 8) y.k, y.x, y.y⟩ (eu (eu (eu 0 (ge N p 1)) (ge N (gp N p 1) 8)) (ge N (gp N (gp N p 1) 8) 1)) (gp N (gp N (gp N p 1) 8) 1) := by
  refine ⟨gp_le (gp_le (gp_le hp)), ?_⟩
  obtain ⟨h1, hb, e1, e2⟩ := oneA' h
  rw [e1, e2] at h2 ⊢
  unfold oneF
  rw [if_neg h1, if_neg (by simp [hb])]
  unfold gv ge gp eu at h2 ⊢
  rw [num_one] at h2
  by_cases h3 : N < p + 1 + 8
  · rw [if_pos h3, if_pos h3]; rw [if_pos (show N < p + 10 by omega)]; simp
  · rw [if_neg h3] at h2 ⊢
    rw [if_neg h3] at h2 ⊢
    by_cases h4 : N < p + 1 + 8 + 1
    · rw [if_pos (show N < p + 10 by omega), if_pos h4]; simp
    · rw [if_neg h4] at h2 ⊢
      rw [if_neg (show ¬ N < p + 10 by omega)]
      have : bitAt bs (p + 9) = false := by
        cases hb : bitAt bs (p + 9)
        · rfl
        · rw [show p + 1 + 8 = p + 9 by omega, hb] at h2; simp at h2; omega
      rw [if_neg h4, if_pos this, if_neg h3]
      simp
theorem oneC {bs : List Int} {N p : Nat} {y : Inp} (hp : p ≤ N) (h : ¬ gv bs N p 1 = 0)
    (h2 : gv bs N (gp N (gp N p 1) 8) 1 = 1) (h3 : eu (eu (eu 0 (ge N p 1)) (ge N (gp N p 1) 8)) (ge N (gp N (gp N p 1) 8) 1) = 0) :
    gp N (gp N (gp N p 1) 8) 1 = p + 10 ∧ oneOK bs N p y ⟨bXor .i64 (gv bs N (gp N p 1) 8) y.k, gv bs N (p + 10) 8 - 128, gv bs N (gp N (p + 10) 8) 8 - 128⟩ (eu (eu 0 (ge N (p + 10) 8)) (ge N (gp N (p + 10) 8) 8)) (gp N (gp N (p + 10) 8) 8) := by
  obtain ⟨h1, hb, e1, e2⟩ := oneA' h
  rw [e1, e2] at h3
  rw [e2] at h2 ⊢
  unfold gv gp at h2
  unfold ge gp eu at h3
  rw [num_one] at h2
  by_cases h4 : N < p + 1 + 8
  · rw [if_pos h4] at h3; simp at h3
  · rw [if_neg h4] at h2 h3
    rw [if_neg h4] at h3
    by_cases h5 : N < p + 1 + 8 + 1
    · rw [if_pos h5] at h3; simp at h3
    · rw [if_neg h5] at h2
      have hb2 : bitAt bs (p + 9) = true := by
        cases hb : bitAt bs (p + 9)
        · rw [show p + 1 + 8 = p + 9 by omega, hb] at h2; simp at h2
        · rfl
      have e3 : gp N (p + 1) 8 = p + 9 := by unfold gp; rw [if_neg h4]
      have e4 : gp N (p + 9) 1 = p + 10 := by unfold gp; rw [if_neg (by omega)]
      rw [e3, e4]
      refine ⟨rfl, gp_le (gp_le (by omega)), ?_⟩
      unfold oneF
      rw [if_neg h1, if_neg (by simp [hb]), if_neg (by omega), if_neg (by simp [hb2])]
      unfold gv ge gp eu
      rw [if_neg h4]
      by_cases h6 : N < p + 10 + 8
      · rw [if_pos (show N < p + 26 by omega)]; simp [h6]
      · by_cases h7 : N < p + 10 + 8 + 8
        · rw [if_pos (show N < p + 26 by omega)]; simp [h6, h7]
        · rw [if_neg (show ¬ N < p + 26 by omega)]; simp [h6, h7]
theorem oneD {bs : List Int} {N p : Nat} {y : Inp} (hp : p ≤ N) (h : ¬ gv bs N p 1 = 0)
    (h2 : gv bs N (gp N (gp N p 1) 8) 1 = 1) (h3 : eu (eu (eu 0 (ge N p 1)) (ge N (gp N p 1) 8)) (ge N (gp N (gp N p 1) 8) 1) = 0) :
    oneOK bs N p y ⟨bXor .i64 (gv bs N (gp N p 1) 8) y.k, gv bs N (gp N (gp N (gp N p 1) 8) 1) 8 - 128, gv bs N (gp N (gp N (gp N (gp N p 1) 8) 1) 8) 8 - 128⟩
      (eu (eu (eu (eu (eu 0 (ge N p 1)) (ge N (gp N p 1) 8)) (ge N (gp N (gp N p 1) 8) 1)) (ge N (gp N (gp N (gp N p 1) 8) 1) 8)) (ge N (gp N (gp N (gp N (gp N p 1) 8) 1) 8) 8)) (gp N (gp N (gp N (gp N (gp N p 1) 8) 1) 8) 8) := by
  obtain ⟨e, h4⟩ := oneC (y := y) hp h h2 h3
  rw [h3, e]; exact h4
end Go.Proofs.Ytoigljcmpicgfaa.K
