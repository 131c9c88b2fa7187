/- Plain laws: a frame read bit by bit into a copy of the frame before. No condition. -/
import Derived.Test.YtoigljcmpicgfaaB3
namespace Go.Proofs.Ytoigljcmpicgfaa.K
open Go.RowKit

theorem sum_in {bs : List Int} (hb : ∀ b ∈ bs, 0 ≤ b ∧ b ≤ 255) {p i : Nat} (hi : i < 8) :
    inK .i64 ((num bs p i : Nat) + (IntKind.i64.wrap (bAnd .u8 ((bs.getD (((p + i : Nat) : Int) / 8).toNat 0).fdiv (2 ^ (min ((((p + i : Nat) : Int) % 8).toNat) 8))) 1 * 2 ^ (min ((i : Int).toNat) 64)))) := by
  rw [sum_step hb hi]
  have h1 := num_lt bs p (i + 1)
  have h2 := Nat.pow_le_pow_right (show 0 < 2 by omega) (show i + 1 ≤ 8 by omega)
  simp only [inK]
  omega
def rp (N p m : Nat) : Nat := if N < p + m then N else p + m
def ro (N p m : Nat) (ov : Bool) : Bool := ov || decide (N < p + m)
theorem rp_le {N p m : Nat} : rp N p m ≤ N := by unfold rp; split <;> omega
def setK (xs : List Inp) (i : Nat) (v : Int) : List Inp := xs.set i { xs.getD i default with k := v }
def setX (xs : List Inp) (i : Nat) (v : Int) : List Inp := xs.set i { xs.getD i default with x := v }
def setY (xs : List Inp) (i : Nat) (v : Int) : List Inp := xs.set i { xs.getD i default with y := v }
theorem setK_len {xs : List Inp} {i : Nat} {v : Int} : (setK xs i v).length = xs.length := by simp [setK]
theorem setX_len {xs : List Inp} {i : Nat} {v : Int} : (setX xs i v).length = xs.length := by simp [setX]
theorem setY_len {xs : List Inp} {i : Nat} {v : Int} : (setY xs i v).length = xs.length := by simp [setY]
theorem set_mid {xs : List Inp} {l : List Inp} {i : Nat} (hx : xs.length = i) (hi : i < l.length) (z : Inp) : (xs ++ l.drop i).set i z = (xs ++ [z]) ++ l.drop (i + 1) := by
  rw [List.drop_eq_getElem_cons hi, List.set_append_right _ _ (by omega), hx, Nat.sub_self, List.set_cons_zero]; simp
theorem mid_at {xs : List Inp} {l : List Inp} {i : Nat} (hx : xs.length = i) (hi : i < l.length) : (xs ++ l.drop i).getD i default = l.getD i default := by
  rw [List.getD_eq_getElem?_getD, List.getElem?_append_right (by omega), hx, Nat.sub_self, List.getElem?_drop]; simp
theorem mid_at' {xs : List Inp} {l : List Inp} {i : Nat} {z : Inp} (hx : xs.length = i) : ((xs ++ [z]) ++ l).getD i default = z := by
  rw [List.append_assoc, List.getD_eq_getElem?_getD, List.getElem?_append_right (by omega), hx, Nat.sub_self]; simp
theorem mid_set' {xs : List Inp} {l : List Inp} {i : Nat} {z z' : Inp} (hx : xs.length = i) : ((xs ++ [z]) ++ l).set i z' = (xs ++ [z']) ++ l := by
  rw [List.append_assoc, List.set_append_right _ _ (by omega), hx, Nat.sub_self]; simp
/-- Where the reading stands: the place, whether it went over the end, the copy. -/
def lawOK (bs : List Int) (N : Nat) (l : List Inp) (i p : Nat) (ov : Bool) (ws : List Inp) : Prop :=
  p ≤ N ∧ ws.length = l.length ∧ (ov = true → unTo bs N l l.length = none) ∧ (ov = false → ∃ xs, xs.length = i ∧ unTo bs N l i = some (xs, p) ∧ ws = xs ++ l.drop i)
theorem law_over {bs : List Int} {N : Nat} {l : List Inp} {i p : Nat} {ov : Bool} {ws : List Inp} (h : lawOK bs N l i p ov ws) (hi : i < l.length) (hn : oneF bs N p (l.getD i default) = none) : unTo bs N l l.length = none := by
  cases ov
  · obtain ⟨xs, _, h1, _⟩ := h.2.2.2 rfl
    exact unTo_none (unTo_fail h1 hn) (by omega)
  · exact h.2.2.1 rfl
theorem law_next {bs : List Int} {N : Nat} {l : List Inp} {i p : Nat} {ov : Bool} {ws : List Inp} (h : lawOK bs N l i p ov ws) (hi : i < l.length) {p' : Nat} {ov' : Bool} {ws' : List Inp} (hp : p' ≤ N) (hl : ws'.length = ws.length) (h0 : ov = true → ov' = true)
    (h1 : ov' = true → ov = true ∨ oneF bs N p (l.getD i default) = none)
    (h2 : ov' = false → ∀ xs, xs.length = i → ws = xs ++ l.drop i → ∃ x, oneF bs N p (l.getD i default) = some (x, p') ∧ ws' = (xs ++ [x]) ++ l.drop (i + 1)) : lawOK bs N l (i + 1) p' ov' ws' := by
  refine ⟨hp, by rw [hl]; exact h.2.1, fun e => (h1 e).elim (h.2.2.1) (law_over h hi), fun e => ?_⟩
  have eo : ov = false := by cases ov; rfl; rw [h0 rfl] at e; cases e
  obtain ⟨xs, e1, e2, e3⟩ := h.2.2.2 eo
  obtain ⟨x, e4, e5⟩ := h2 e xs e1 e3
  exact ⟨xs ++ [x], by simp [e1], unTo_step e2 e4, e5⟩
theorem lawA {bs : List Int} {N : Nat} {l : List Inp} {i p : Nat} {ov : Bool} {ws : List Inp} (h : lawOK bs N l i p ov ws) (hi : i < l.length) (hg : gv bs N p 1 = 0) : lawOK bs N l (i + 1) (rp N p 1) (ro N p 1 ov) ws := by
  refine law_next h hi rp_le rfl (fun e => by simp [ro, e]) (fun e => ?_) (fun e xs e1 e2 => ?_)
  · unfold ro at e
    rcases Bool.or_eq_true_iff.1 e with e | e
    · exact .inl e
    · refine .inr ?_
      unfold oneF; rw [if_pos (by simpa using e)]
  · unfold ro at e
    have hn : ¬ N < p + 1 := by simpa using (Bool.or_eq_false_iff.1 e).2
    unfold gv at hg
    rw [if_neg hn, num_one] at hg
    have hb : bitAt bs p = false := by cases hb : bitAt bs p <;> simp_all
    refine ⟨l.getD i default, ?_, ?_⟩
    · unfold oneF rp; rw [if_neg hn, if_pos hb, if_neg hn]
    · rw [e2, List.drop_eq_getElem_cons hi, List.getD_eq_getElem?_getD, List.getElem?_eq_getElem hi]; simp
theorem lawB {bs : List Int} {N : Nat} {l : List Inp} {i p : Nat} {ov : Bool} {ws : List Inp} (h : lawOK bs N l i p ov ws) (hi : i < l.length) (hg : ¬ gv bs N p 1 = 0) (h2 : ¬ gv bs N (rp N (rp N p 1) 8) 1 = 1) :
    lawOK bs N l (i + 1) (rp N (rp N (rp N p 1) 8) 1) (ro N (rp N (rp N p 1) 8) 1 (ro N (rp N p 1) 8 (ro N p 1 ov))) (setK ws i (bXor .i64 (gv bs N (rp N p 1) 8) (l.getD i default).k)) := by
  obtain ⟨h1, hb, _, _⟩ := oneA' hg
  have e1 : rp N p 1 = p + 1 := by unfold rp; rw [if_neg h1]
  rw [e1] at h2 ⊢
  refine law_next h hi rp_le setK_len (fun e => by simp [ro, e]) (fun e => ?_) (fun e xs e3 e4 => ?_)
  · by_cases hN : N < p + 10
    · refine .inr ?_
      unfold oneF; rw [if_neg h1, if_neg (by simp [hb]), if_pos hN]
    · refine .inl ?_
      have e2 : rp N (p + 1) 8 = p + 9 := by unfold rp; rw [if_neg (by omega)]
      rw [e2] at e
      cases ov
      · simp [ro] at e; omega
      · rfl
  · have hN : ¬ N < p + 10 := by
      intro hN
      unfold ro at e
      simp only [Bool.or_eq_false_iff, decide_eq_false_iff_not] at e
      have := e.2
      by_cases h9 : N < p + 1 + 8
      · exact e.1.2 h9
      · have e2 : rp N (p + 1) 8 = p + 9 := by unfold rp; rw [if_neg h9]
        rw [e2] at this; omega
    have e2 : rp N (p + 1) 8 = p + 9 := by unfold rp; rw [if_neg (by omega)]
    rw [e2] at h2 ⊢
    have hb2 : bitAt bs (p + 9) = false := by
      cases hb : bitAt bs (p + 9)
      · rfl
      · unfold gv at h2; rw [if_neg (by omega), num_one, hb] at h2; simp at h2
    refine ⟨⟨bXor .i64 (num bs (p + 1) 8) (l.getD i default).k, (l.getD i default).x, (l.getD i default).y⟩, ?_, ?_⟩
    · unfold oneF rp
      rw [if_neg h1, if_neg (by simp [hb]), if_neg hN, if_pos hb2, if_neg (by omega)]
    · have e5 : gv bs N (p + 1) 8 = num bs (p + 1) 8 := by unfold gv; rw [if_neg (by omega)]
      unfold setK
      rw [e4, set_mid e3 hi, mid_at e3 hi, e5]
theorem lawD {bs : List Int} {N : Nat} {l : List Inp} {i p : Nat} {ov : Bool} {ws : List Inp} (h : lawOK bs N l i p ov ws) (hi : i < l.length) (hg : ¬ gv bs N p 1 = 0) (h2 : gv bs N (rp N (rp N p 1) 8) 1 = 1) :
    lawOK bs N l (i + 1) (rp N (rp N (rp N (rp N (rp N p 1) 8) 1) 8) 8) (ro N (rp N (rp N (rp N (rp N p 1) 8) 1) 8) 8 (ro N (rp N (rp N (rp N p 1) 8) 1) 8 (ro N (rp N (rp N p 1) 8) 1 (ro N (rp N p 1) 8 (ro N p 1 ov)))))
      (setY (setX (setK ws i (bXor .i64 (gv bs N (rp N p 1) 8) (l.getD i default).k)) i (gv bs N (rp N (rp N (rp N p 1) 8) 1) 8 - 128)) i (gv bs N (rp N (rp N (rp N (rp N p 1) 8) 1) 8) 8 - 128)) := by
  obtain ⟨h1, hb, _, _⟩ := oneA' hg
  have e1 : rp N p 1 = p + 1 := by unfold rp; rw [if_neg h1]
  rw [e1] at h2 ⊢
  have hN9 : ¬ N < p + 1 + 8 := by
    intro hh
    have e2 : rp N (p + 1) 8 = N := by unfold rp; rw [if_pos hh]
    rw [e2] at h2; unfold gv at h2; rw [if_pos (by omega)] at h2; cases h2
  have e2 : rp N (p + 1) 8 = p + 9 := by unfold rp; rw [if_neg hN9]
  rw [e2] at h2 ⊢
  have hN10 : ¬ N < p + 9 + 1 := by
    intro hh
    unfold gv at h2; rw [if_pos hh] at h2; cases h2
  have e3 : rp N (p + 9) 1 = p + 10 := by unfold rp; rw [if_neg hN10]
  rw [e3]
  have hb2 : bitAt bs (p + 9) = true := by
    unfold gv at h2; rw [if_neg hN10, num_one] at h2
    cases hb : bitAt bs (p + 9)
    · rw [hb] at h2; simp at h2
    · rfl
  refine law_next h hi rp_le (by rw [setY_len, setX_len, setK_len]) (fun e => by simp [ro, e]) (fun e => ?_) (fun e xs e4 e5 => ?_)
  · by_cases hN : N < p + 26
    · refine .inr ?_
      unfold oneF; rw [if_neg h1, if_neg (by simp [hb]), if_neg (by omega), if_neg (by simp [hb2]), if_pos hN]
    · refine .inl ?_
      have e6 : rp N (p + 10) 8 = p + 18 := by unfold rp; rw [if_neg (by omega)]
      rw [e6] at e
      cases ov
      · simp [ro] at e; omega
      · rfl
  · have hN : ¬ N < p + 26 := by
      intro hN
      unfold ro at e
      simp only [Bool.or_eq_false_iff, decide_eq_false_iff_not] at e
      have := e.2
      by_cases h9 : N < p + 10 + 8
      · exact e.1.2 h9
      · have e6 : rp N (p + 10) 8 = p + 18 := by unfold rp; rw [if_neg h9]
        rw [e6] at this; omega
    have e6 : rp N (p + 10) 8 = p + 18 := by unfold rp; rw [if_neg (by omega)]
    have e7 : rp N (p + 18) 8 = p + 26 := by unfold rp; rw [if_neg (by omega)]
    have e8 : gv bs N (p + 1) 8 = num bs (p + 1) 8 := by unfold gv; rw [if_neg (by omega)]
    have e9 : gv bs N (p + 10) 8 = num bs (p + 10) 8 := by unfold gv; rw [if_neg (by omega)]
    have e10 : gv bs N (p + 18) 8 = num bs (p + 18) 8 := by unfold gv; rw [if_neg (by omega)]
    rw [e6, e7, e8, e9, e10]
    refine ⟨⟨bXor .i64 (num bs (p + 1) 8) (l.getD i default).k, num bs (p + 10) 8 - 128, num bs (p + 18) 8 - 128⟩, ?_, ?_⟩
    · unfold oneF
      rw [if_neg h1, if_neg (by simp [hb]), if_neg (by omega), if_neg (by simp [hb2]), if_neg hN]
    · unfold setY setX setK
      rw [e5, set_mid e4 hi, mid_at e4 hi, mid_at' e4, mid_set' e4, mid_at' e4, mid_set' e4]
end Go.Proofs.Ytoigljcmpicgfaa.K
