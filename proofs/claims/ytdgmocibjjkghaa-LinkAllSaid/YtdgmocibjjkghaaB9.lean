/- Lists of numbers: sorted up to a place, sorted but for one, and that the sorted list is one. No condition. -/
import Derived.Test.YtdgmocibjjkghaaK9
namespace Go.Proofs.Ytdgmocibjjkghaa.K
def SrtTo (ys : List Int) (n : Nat) : Prop := ∀ p q, p < q → q < n → ys.getD p 0 ≤ ys.getD q 0
def SrtBut (ys : List Int) (n j : Nat) : Prop := ∀ p q, p < q → q < n → q ≠ j → ys.getD p 0 ≤ ys.getD q 0
theorem getD_set (l : List Int) (i j : Nat) (v : Int) (h : i < l.length) : (l.set i v).getD j 0 = if j = i then v else l.getD j 0 := by
  rw [List.getD_eq_getElem?_getD, List.getD_eq_getElem?_getD, List.getElem?_set]
  by_cases e : i = j
  · subst e; simp [h]
  · rw [if_neg e, if_neg (fun hh => e hh.symm)]
/-- Two neighbours change places. -/
def swp (ys : List Int) (j : Nat) : List Int := (ys.set j (ys.getD (j - 1) 0)).set (j - 1) (ys.getD j 0)
theorem swp_len (ys : List Int) (j : Nat) : (swp ys j).length = ys.length := by simp [swp]
theorem swp_getD {ys : List Int} {j : Nat} (h0 : 0 < j) (h : j < ys.length) (i : Nat) : (swp ys j).getD i 0 = if i = j - 1 then ys.getD j 0 else if i = j then ys.getD (j - 1) 0 else ys.getD i 0 := by
  unfold swp
  rw [getD_set _ _ _ _ (by simp; omega), getD_set _ _ _ _ h]
theorem swp_but {ys : List Int} {n j : Nat} (h0 : 0 < j) (hj : j < n) (hn : n ≤ ys.length) (h : SrtBut ys n j) (hlt : ys.getD j 0 < ys.getD (j - 1) 0) : SrtBut (swp ys j) n (j - 1) := by
  intro p q hpq hq hne
  rw [swp_getD h0 (by omega), swp_getD h0 (by omega), if_neg hne]
  by_cases e : q = j
  · subst e
    rw [if_pos rfl]
    by_cases e1 : p = q - 1
    · rw [if_pos e1]; omega
    · rw [if_neg e1, if_neg (by omega)]
      exact h p (q - 1) (by omega) (by omega) (by omega)
  · rw [if_neg e]
    by_cases e1 : p = j - 1
    · rw [if_pos e1]; exact h j q (by omega) hq e
    · rw [if_neg e1]
      by_cases e2 : p = j
      · rw [if_pos e2]; exact h (j - 1) q (by omega) hq e
      · rw [if_neg e2]; exact h p q hpq hq e
theorem but_done {ys : List Int} {n j : Nat} (h : SrtBut ys n j) (hd : j = 0 ∨ ys.getD (j - 1) 0 ≤ ys.getD j 0) : SrtTo ys n := by
  intro p q hpq hq
  by_cases e : q = j
  · subst e
    rcases hd with hd | hd
    · omega
    · by_cases e1 : p = q - 1
      · rw [e1]; exact hd
      · have := h p (q - 1) (by omega) (by omega) (by omega); omega
  · exact h p q hpq hq e
theorem srt_but {ys : List Int} {n : Nat} (h : SrtTo ys n) : SrtBut ys (n + 1) n := fun p q hpq hq hne => h p q hpq (by omega)
theorem count_swap (ys : List Int) (j k : Nat) (hj : j < ys.length) (hk : k < ys.length) (a : Int) : ((ys.set j (ys.getD k 0)).set k (ys.getD j 0)).count a = ys.count a := by
  by_cases e : j = k
  · subst e
    have : ys.set j (ys.getD j 0) = ys := by
      apply List.ext_getElem (by simp)
      intro i h1 h2
      rw [List.getElem_set]
      split
      · rename_i e; subst e; simp [List.getD_eq_getElem?_getD, hj]
      · rfl
    rw [this, this]
  · rw [List.count_set (by simpa using hk), List.count_set hj]
    have e1 : (ys.set j (ys.getD k 0))[k]'(by simpa using hk) = ys[k] := by rw [List.getElem_set]; simp [e]
    have e2 : ys.getD k 0 = ys[k] := by simp [List.getD_eq_getElem?_getD, hk]
    have e3 : ys.getD j 0 = ys[j] := by simp [List.getD_eq_getElem?_getD, hj]
    rw [e1, e2, e3]
    have h1 : (if ys[j] == a then 1 else 0) ≤ ys.count a := by
      split
      · rename_i hh
        have hh' : ys[j] = a := by simpa using hh
        exact List.one_le_count_iff.2 (hh' ▸ List.getElem_mem hj)
      · omega
    generalize (if ys[j] == a then 1 else 0) = x at h1 ⊢
    generalize (if ys[k] == a then 1 else 0) = y
    omega
theorem swp_perm {ys : List Int} {j : Nat} (h : j < ys.length) : (swp ys j).Perm ys := List.perm_iff_count.2 fun a => count_swap ys j (j - 1) h (by omega) a
theorem srt_pairwise {ys : List Int} (h : SrtTo ys ys.length) : ys.Pairwise (· ≤ ·) := by
  rw [List.pairwise_iff_getElem]
  intro i j hi hj hij
  have := h i j hij hj
  simpa [List.getD_eq_getElem?_getD, hi, hj] using this
/-- 'zs' is 'xs' in order. -/
def Sorts (xs zs : List Int) : Prop := zs.Perm xs ∧ SrtTo zs zs.length
theorem Sorts.unique {xs zs zs' : List Int} (h : Sorts xs zs) (h' : Sorts xs zs') : zs = zs' :=
  (h.1.trans h'.1.symm).eq_of_pairwise (fun _ _ _ _ h1 h2 => Int.le_antisymm h1 h2) (srt_pairwise h.2) (srt_pairwise h'.2)
theorem Sorts.len {xs zs : List Int} (h : Sorts xs zs) : zs.length = xs.length := h.1.length_eq
/-- Some order of a list there is, and what lies in the middle of it. -/
def ins (a : Int) : List Int → List Int
  | [] => [a]
  | b :: l => if a ≤ b then a :: b :: l else b :: ins a l
def srt : List Int → List Int
  | [] => []
  | a :: l => ins a (srt l)
theorem ins_perm (a : Int) : ∀ l, (ins a l).Perm (a :: l)
  | [] => List.Perm.refl _
  | b :: l => by
    simp only [ins]; split
    · exact List.Perm.refl _
    · exact ((ins_perm a l).cons b).trans (List.Perm.swap a b l)
theorem ins_srt (a : Int) : ∀ l : List Int, l.Pairwise (· ≤ ·) → (ins a l).Pairwise (· ≤ ·)
  | [], _ => by simp [ins]
  | b :: l, h => by
    simp only [ins]; split
    · rename_i hab
      refine List.Pairwise.cons (fun x hx => ?_) h
      rcases List.mem_cons.1 hx with rfl | hx
      · exact hab
      · exact Int.le_trans hab (List.rel_of_pairwise_cons h hx)
    · rename_i hab
      refine List.Pairwise.cons (fun x hx => ?_) (ins_srt a l (List.Pairwise.of_cons h))
      have := (ins_perm a l).mem_iff.1 hx
      rcases List.mem_cons.1 this with rfl | hx
      · omega
      · exact List.rel_of_pairwise_cons h hx
theorem srt_perm : ∀ l, (srt l).Perm l
  | [] => List.Perm.refl _
  | a :: l => (ins_perm a _).trans ((srt_perm l).cons a)
theorem srt_srt : ∀ l, (srt l).Pairwise (· ≤ ·)
  | [] => List.Pairwise.nil
  | a :: l => ins_srt a _ (srt_srt l)
theorem srt_len (l : List Int) : (srt l).length = l.length := (srt_perm l).length_eq
theorem Sorts.eq {xs zs : List Int} (h : Sorts xs zs) : zs = srt xs :=
  (h.1.trans (srt_perm xs).symm).eq_of_pairwise (fun _ _ _ _ h1 h2 => Int.le_antisymm h1 h2) (srt_pairwise h.2) (srt_srt xs)
def med (xs : List Int) : Int := (srt xs).getD ((xs.length - 1) / 2) 0
end Go.Proofs.Ytdgmocibjjkghaa.K
