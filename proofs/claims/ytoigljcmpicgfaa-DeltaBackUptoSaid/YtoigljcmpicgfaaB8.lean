/- Plain laws: a list read back from its difference. No condition. -/
import Derived.Test.YtoigljcmpicgfaaB7
namespace Go.Proofs.Ytoigljcmpicgfaa.K
open Go.RowKit

def intRd (bs : List Int) (N p : Nat) (v er : Int) (p' : Nat) : Prop := ∀ d, inK .i64 d → bitsAt bs N p (natB (zz d)) → er = 0 ∧ v = d ∧ p' = p + (natB (zz d)).length
/-- The bits of a list behind the sums. -/
def full (old ys : List Int) : List Bool := natB ys.length ++ dBits old ys ys.length ++ dTail old ys ys.length
/-- A list whose difference lies at a place. -/
def Good (bs : List Int) (N p : Nat) (old ys : List Int) : Prop := ys.length ≤ 65536 ∧ (∀ y ∈ ys, inK .i64 y) ∧ bitsAt bs N p (full old ys)
/-- Between two numbers of the difference. -/
def bodyI (bs : List Int) (N p : Nat) (old : List Int) (cnt : Int) (q : Nat) (zs : List Int) : Prop :=
  ∀ ys, Good bs N p old ys → cnt = ys.length ∧ zs.length ≤ ys.length ∧ dRun old ys zs.length = 0 ∧ q = p + (natB ys.length ++ dBits old ys zs.length).length ∧ zs = ys.take zs.length
/-- Behind the number of those that are equal, of which r are still to come. -/
def bodyK (bs : List Int) (N p : Nat) (old : List Int) (cnt : Int) (q : Nat) (zs : List Int) (r : Nat) : Prop :=
  ∀ ys, Good bs N p old ys → cnt = ys.length ∧ ∃ j, zs.length + r = j ∧ j ≤ ys.length ∧ zs = ys.take zs.length ∧ (∀ i, zs.length ≤ i → i < j → ys.getD i 0 = base old i) ∧
    (j < ys.length → bitsAt bs N q (natB (zz (dd old ys j))) ∧ dRun old ys (j + 1) = 0 ∧ q + (natB (zz (dd old ys j))).length = p + (natB ys.length ++ dBits old ys (j + 1)).length)
theorem run_from {old ys : List Int} {k : Nat} (h0 : dRun old ys k = 0) : ∀ j, k ≤ j → (∀ i, k ≤ i → i < j → ys.getD i 0 = base old i) → dRun old ys j = j - k ∧ dBits old ys j = dBits old ys k
  | 0, hj, _ => by rw [show k = 0 by omega]; exact ⟨rfl, rfl⟩
  | j + 1, hj, hs => by
    by_cases e : k = j + 1
    · rw [← e]; exact ⟨by omega, rfl⟩
    · obtain ⟨h1, h2⟩ := run_from h0 j (by omega) (fun i hi1 hi2 => hs i hi1 (by omega))
      have hj2 := hs j (by omega) (by omega)
      simp only [dRun, dBits]
      rw [if_pos hj2, if_pos hj2, h1, h2]
      exact ⟨by omega, rfl⟩
theorem next_other (old ys : List Int) (n : Nat) : ∀ m k, n = k + m → ∃ j, k ≤ j ∧ j ≤ n ∧ (∀ i, k ≤ i → i < j → ys.getD i 0 = base old i) ∧ (j = n ∨ ¬ ys.getD j 0 = base old j)
  | 0, k, h => ⟨k, Nat.le_refl _, by omega, fun i h1 h2 => by omega, .inl (by omega)⟩
  | m + 1, k, h => by
    by_cases hs : ys.getD k 0 = base old k
    · obtain ⟨j, h1, h2, h3, h4⟩ := next_other old ys n m (k + 1) (by omega)
      refine ⟨j, by omega, h2, fun i hi1 hi2 => ?_, h4⟩
      by_cases e : i = k
      · rw [e]; exact hs
      · exact h3 i (by omega) hi2
    · exact ⟨k, Nat.le_refl _, by omega, fun i h1 h2 => by omega, .inr hs⟩
theorem dBits_pre (old ys : List Int) {j : Nat} : ∀ {k : Nat}, j ≤ k → ∃ t, dBits old ys k = dBits old ys j ++ t
  | 0, h => ⟨[], by rw [show j = 0 by omega, List.append_nil]⟩
  | k + 1, h => by
    by_cases e : j = k + 1
    · exact ⟨[], by rw [e, List.append_nil]⟩
    · obtain ⟨t, ht⟩ := dBits_pre old ys (show j ≤ k by omega)
      simp only [dBits]
      split
      · exact ⟨t, ht⟩
      · exact ⟨t ++ natB (dRun old ys k) ++ natB (zz (dd old ys k)), by rw [ht]; simp only [List.append_assoc]⟩
theorem body_start {bs : List Int} {N p : Nat} {old : List Int} {v er : Int} {q : Nat} (h : natRd bs N p v er q) : ∀ ys, Good bs N p old ys → er = 0 ∧ v = ys.length ∧ q = p + (natB ys.length).length := by
  intro ys hg
  have hb := hg.2.2
  unfold full at hb
  rw [List.append_assoc] at hb
  have := bitsAt_mid (a := []) (by rw [List.nil_append]; exact hb)
  exact h ys.length (by have := hg.1; omega) (by simpa using this)
theorem body_first {bs : List Int} {N p : Nat} {old : List Int} {v : Int} {q : Nat} (h : natRd bs N p v 0 q) : bodyI bs N p old v q [] := fun ys hg => by
  obtain ⟨_, h2, h3⟩ := body_start h ys hg
  exact ⟨h2, Nat.zero_le _, rfl, by rw [h3]; simp [dBits], by simp⟩
theorem body_run {bs : List Int} {N p : Nat} {old : List Int} {cnt : Int} {q : Nat} {zs : List Int} {v er : Int} {q' : Nat} (h : bodyI bs N p old cnt q zs) (hlt : (zs.length : Int) < cnt) (hr : natRd bs N q v er q') :
    ∀ ys, Good bs N p old ys → er = 0 ∧ ∃ j : Nat, v = (j : Int) - zs.length ∧ zs.length ≤ j ∧ j ≤ ys.length ∧ (∀ i, zs.length ≤ i → i < j → ys.getD i 0 = base old i) ∧
      (j < ys.length → bitsAt bs N q' (natB (zz (dd old ys j))) ∧ dRun old ys (j + 1) = 0 ∧ q' + (natB (zz (dd old ys j))).length = p + (natB ys.length ++ dBits old ys (j + 1)).length) := by
  intro ys hg
  obtain ⟨h1, h2, h3, h4, h5⟩ := h ys hg
  obtain ⟨j, j1, j2, j3, j4⟩ := next_other old ys ys.length (ys.length - zs.length) zs.length (by omega)
  obtain ⟨r1, r2⟩ := run_from h3 j j1 j3
  have hlen : ys.length < 18446744073709551616 := by have := hg.1; omega
  have hb := hg.2.2
  unfold full at hb
  by_cases ej : j = ys.length
  · subst ej
    rw [r2] at hb
    unfold dTail at hb
    rw [r1] at hb
    by_cases hz : 0 < ys.length - zs.length
    · rw [if_pos hz] at hb
      have hm := bitsAt_mid (c := []) (by rw [List.append_nil]; exact hb)
      rw [← h4] at hm
      obtain ⟨e1, e2, e3⟩ := hr _ (by omega) hm
      exact ⟨e1, ys.length, by rw [e2]; omega, j1, j2, j3, fun hh => absurd hh (Nat.lt_irrefl _)⟩
    · omega
  · have hns := j4.resolve_left ej
    obtain ⟨t, ht⟩ := dBits_pre old ys (show j + 1 ≤ ys.length by omega)
    have hd : dBits old ys (j + 1) = dBits old ys zs.length ++ natB (j - zs.length) ++ natB (zz (dd old ys j)) := by
      simp only [dBits]; rw [if_neg hns, r1, r2]
    have hd0 : dRun old ys (j + 1) = 0 := by simp only [dRun]; rw [if_neg hns]
    rw [ht, hd] at hb
    have hb1 : bitsAt bs N p ((natB ys.length ++ dBits old ys zs.length) ++ natB (j - zs.length) ++ (natB (zz (dd old ys j)) ++ t ++ dTail old ys ys.length)) := by simpa only [List.append_assoc] using hb
    have hb2 : bitsAt bs N p ((natB ys.length ++ dBits old ys zs.length ++ natB (j - zs.length)) ++ natB (zz (dd old ys j)) ++ (t ++ dTail old ys ys.length)) := by simpa only [List.append_assoc] using hb
    have hm1 := bitsAt_mid hb1
    rw [← h4] at hm1
    obtain ⟨e1, e2, e3⟩ := hr _ (by omega) hm1
    have hm2 := bitsAt_mid hb2
    refine ⟨e1, j, by rw [e2]; omega, j1, j2, j3, fun _ => ⟨?_, hd0, ?_⟩⟩
    · rw [e3, h4]
      rw [List.length_append, ← Nat.add_assoc] at hm2
      exact hm2
    · rw [e3, h4, hd]; simp only [List.length_append]; omega
theorem body_err {bs : List Int} {N p : Nat} {old : List Int} {cnt : Int} {q : Nat} {zs : List Int} {v er : Int} {q' : Nat} (h : bodyI bs N p old cnt q zs) (hlt : (zs.length : Int) < cnt) (hr : natRd bs N q v er q') (he : ¬ er = 0) : ∀ ys, ¬ Good bs N p old ys :=
  fun ys hg => he (body_run h hlt hr ys hg).1
theorem body_big {bs : List Int} {N p : Nat} {old : List Int} {cnt : Int} {q : Nat} {zs : List Int} {v er : Int} {q' : Nat} (h : bodyI bs N p old cnt q zs) (hlt : (zs.length : Int) < cnt) (hr : natRd bs N q v er q') (he : cnt - zs.length < v) : ∀ ys, ¬ Good bs N p old ys :=
  fun ys hg => by
    obtain ⟨_, j, h1, h2, h3, _⟩ := body_run h hlt hr ys hg
    have := (h ys hg).1
    omega
theorem body_K {bs : List Int} {N p : Nat} {old : List Int} {cnt : Int} {q : Nat} {zs : List Int} {v er : Int} {q' : Nat} (h : bodyI bs N p old cnt q zs) (hlt : (zs.length : Int) < cnt) (hr : natRd bs N q v er q') (hv : 0 ≤ v) : bodyK bs N p old cnt q' zs v.toNat :=
  fun ys hg => by
    obtain ⟨_, j, h1, h2, h3, h4, h5⟩ := body_run h hlt hr ys hg
    exact ⟨(h ys hg).1, j, by omega, h3, (h ys hg).2.2.2.2, h4, h5⟩
theorem take_more {zs ys : List Int} (h : zs = ys.take zs.length) (hl : zs.length < ys.length) {z : Int} (hz : ys.getD zs.length 0 = z) : zs ++ [z] = ys.take (zs ++ [z]).length := by
  rw [List.length_append, List.length_singleton, List.take_add_one, ← h, ← hz, List.getD_eq_getElem?_getD, List.getElem?_eq_getElem hl]; rfl
theorem body_more {bs : List Int} {N p : Nat} {old : List Int} {cnt : Int} {q : Nat} {zs : List Int} {r : Nat} (h : bodyK bs N p old cnt q zs (r + 1)) : bodyK bs N p old cnt q (zs ++ [base old zs.length]) r :=
  fun ys hg => by
    obtain ⟨h0, j, h1, h2, h3, h4, h5⟩ := h ys hg
    exact ⟨h0, j, by simp; omega, h2, take_more h3 (by omega) (h4 _ (Nat.le_refl _) (by omega)), fun i hi1 hi2 => h4 i (by simp at hi1; omega) hi2, h5⟩
theorem body_done {bs : List Int} {N p : Nat} {old : List Int} {cnt : Int} {q : Nat} {zs : List Int} (h : bodyK bs N p old cnt q zs 0) (he : (zs.length : Int) = cnt) : ∀ ys, Good bs N p old ys → (0 : Int) = 0 ∧ zs = ys :=
  fun ys hg => by
    obtain ⟨h0, j, h1, h2, h3, _⟩ := h ys hg
    refine ⟨rfl, ?_⟩
    rw [h3, List.take_of_length_le (by omega)]
theorem body_end {bs : List Int} {N p : Nat} {old : List Int} {cnt : Int} {q : Nat} {zs : List Int} (h : bodyI bs N p old cnt q zs) (he : ¬ (zs.length : Int) < cnt) : ∀ ys, Good bs N p old ys → (0 : Int) = 0 ∧ zs = ys :=
  fun ys hg => by
    obtain ⟨h1, h2, _, _, h5⟩ := h ys hg
    refine ⟨rfl, ?_⟩
    rw [h5, List.take_of_length_le (by omega)]
theorem body_int {bs : List Int} {N p : Nat} {old : List Int} {cnt : Int} {q : Nat} {zs : List Int} {v er : Int} {q' : Nat} (h : bodyK bs N p old cnt q zs 0) (he : ¬ (zs.length : Int) = cnt) (hr : intRd bs N q v er q') : ∀ ys, Good bs N p old ys → er = 0 ∧ v = dd old ys zs.length ∧ zs.length < ys.length ∧ dRun old ys (zs.length + 1) = 0 ∧ q' = p + (natB ys.length ++ dBits old ys (zs.length + 1)).length :=
  fun ys hg => by
    obtain ⟨h0, j, h1, h2, h3, h4, h5⟩ := h ys hg
    have hj : j = zs.length := by omega
    subst hj
    obtain ⟨b1, b2, b3⟩ := h5 (by omega)
    obtain ⟨e1, e2, e3⟩ := hr _ (dd_in _ _ _) b1
    exact ⟨e1, e2, by omega, b2, by rw [e3]; exact b3⟩
theorem body_interr {bs : List Int} {N p : Nat} {old : List Int} {cnt : Int} {q : Nat} {zs : List Int} {v er : Int} {q' : Nat} (h : bodyK bs N p old cnt q zs 0) (he : ¬ (zs.length : Int) = cnt) (hr : intRd bs N q v er q') (h0 : ¬ er = 0) : ∀ ys, ¬ Good bs N p old ys :=
  fun ys hg => h0 (body_int h he hr ys hg).1
theorem dd_back {y b : Int} (hy : inK .i64 y) : IntKind.i64.wrap (b + IntKind.i64.wrap (y - b)) = y := by
  simp only [inK] at hy
  rw [IntKind.wrap_i64, IntKind.wrap_i64]
  omega
theorem body_next {bs : List Int} {N p : Nat} {old : List Int} {cnt : Int} {q : Nat} {zs : List Int} {v er : Int} {q' : Nat} (h : bodyK bs N p old cnt q zs 0) (he : ¬ (zs.length : Int) = cnt) (hr : intRd bs N q v er q') : bodyI bs N p old cnt q' (zs ++ [IntKind.i64.wrap (base old zs.length + v)]) :=
  fun ys hg => by
    obtain ⟨e1, e2, e3, e4, e5⟩ := body_int h he hr ys hg
    obtain ⟨h0, j, h1, h2, h3, _⟩ := h ys hg
    have hy : ys.getD zs.length 0 = IntKind.i64.wrap (base old zs.length + v) := by
      rw [e2]; unfold dd
      exact (dd_back (hg.2.1 _ (getD_mem e3))).symm
    refine ⟨h0, by simp; omega, by simpa using e4, by simpa using e5, take_more h3 e3 hy⟩
end Go.Proofs.Ytoigljcmpicgfaa.K
