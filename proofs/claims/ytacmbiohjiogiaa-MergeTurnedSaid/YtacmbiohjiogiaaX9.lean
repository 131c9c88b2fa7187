/- Plain laws of the merge. No condition beyond what each statement names. -/
import Derived.Test.YtacmbiohjiogiaaProg
import Derived.Test.YtacmbiohjiogiaaK17
import Derived.Test.YtacmbiohjiogiaaM1
import Derived.Test.YtacmbiohjiogiaaM2
import Derived.Test.YtacmbiohjiogiaaW1
import Derived.Test.YtacmbiohjiogiaaW2
import Derived.Test.YtacmbiohjiogiaaW3
import Derived.Test.YtacmbiohjiogiaaW4
import Derived.Test.YtacmbiohjiogiaaW5
import Derived.Test.YtacmbiohjiogiaaW6
import Derived.Test.YtacmbiohjiogiaaW7
import Derived.Test.YtacmbiohjiogiaaW8
import Derived.Test.YtacmbiohjiogiaaX1
import Derived.Test.YtacmbiohjiogiaaX2
import Derived.Test.YtacmbiohjiogiaaX3
import Derived.Test.YtacmbiohjiogiaaX4
import Derived.Test.YtacmbiohjiogiaaX5
import Derived.Test.YtacmbiohjiogiaaX6
import Derived.Test.YtacmbiohjiogiaaX7
import Derived.Test.YtacmbiohjiogiaaX8
set_option linter.unusedVariables false
set_option linter.unusedSimpArgs false
set_option maxRecDepth 100000
namespace Go.Proofs.Ytacmbiohjiogiaa.K
open Go.RowKit

theorem filt_next {α : Type} (f : α → Int) (i : Int) : ∀ {xs : List α}, xs.Pairwise (fun a b => f a < f b) → xs.filter (fun x => decide (f x < i + 1)) = xs.filter (fun x => decide (f x < i)) ++ (xs.find? fun x => decide (f x = i)).toList
  | [], _ => rfl
  | x :: xs, h => by
    obtain ⟨h1, h2⟩ := List.pairwise_cons.1 h
    have ih := filt_next f i h2
    by_cases hlt : f x < i
    · rw [List.filter_cons, List.filter_cons, List.find?_cons, if_pos (by simp; omega), if_pos (by simp; omega), show decide (f x = i) = false from decide_eq_false (by omega)]
      simp only [List.cons_append, ih]
    · have hbig : ∀ m, m ≤ f x + 1 → xs.filter (fun x => decide (f x < m)) = [] := fun m hm => by
        rw [List.filter_eq_nil_iff]; intro a ha; have := h1 a ha; simp; omega
      by_cases he : f x = i
      · rw [List.filter_cons, List.filter_cons, List.find?_cons, if_pos (by simp; omega), if_neg (by simp; omega), show decide (f x = i) = true from decide_eq_true he, hbig _ (by omega), hbig _ (by omega)]
        rfl
      · have hnone : xs.find? (fun x => decide (f x = i)) = none := by rw [List.find?_eq_none]; intro a ha; have := h1 a ha; simp; omega
        rw [List.filter_cons, List.filter_cons, List.find?_cons, if_neg (by simp; omega), if_neg (by simp; omega), show decide (f x = i) = false from decide_eq_false he, hbig _ (by omega), hbig _ (by omega)]
        simp only [hnone]; rfl
theorem items_lt {ks : List KR} {gs : List Int} {its : List IR} (h : itemsP ks gs its) : ∀ {j i : Nat}, i < j → j < its.length → (its.getD i default).e < (its.getD j default).e
  | 0, _, hi, _ => absurd hi (Nat.not_lt_zero _)
  | j + 1, i, hi, hj => by
    have h1 : (its.getD j default).e < (its.getD (j + 1) default).e := (h (j + 1) hj).1
    by_cases e : i = j
    · rw [e]; exact h1
    · have := items_lt h (show i < j by omega) (by omega); omega
theorem items_pair {ks : List KR} {gs : List Int} {its : List IR} (h : itemsP ks gs its) : its.Pairwise (fun a b => a.e < b.e) := by
  rw [List.pairwise_iff_getElem]
  intro i j hi hj hij
  have := items_lt h hij hj
  simpa [List.getD_eq_getElem?_getD, hi, hj] using this
theorem comps_lt {ks : List KR} {cs : List CR} (h : heldP ks cs) : ∀ {j i : Nat}, i < j → j < cs.length → (cs.getD i default).kind < (cs.getD j default).kind
  | 0, _, hi, _ => absurd hi (Nat.not_lt_zero _)
  | j + 1, i, hi, hj => by
    have h1 : (cs.getD j default).kind < (cs.getD (j + 1) default).kind := (h (j + 1) hj).1
    by_cases e : i = j
    · rw [e]; exact h1
    · have := comps_lt h (show i < j by omega) (by omega); omega
theorem comps_pair {ks : List KR} {cs : List CR} (h : heldP ks cs) : cs.Pairwise (fun a b => a.kind < b.kind) := by
  rw [List.pairwise_iff_getElem]
  intro i j hi hj hij
  have := comps_lt h hij hj
  simpa [List.getD_eq_getElem?_getD, hi, hj] using this
theorem held_bd {ks : List KR} {cs : List CR} (h : heldP ks cs) : ∀ c ∈ cs, 0 ≤ c.kind ∧ c.kind < ks.length := fun c hc => by
  obtain ⟨j, hj, rfl⟩ := List.mem_iff_getElem.1 hc
  have h1 := h j hj
  have h0 := lastC_ge' h (show j ≤ cs.length by omega)
  rw [List.getD_eq_getElem?_getD, List.getElem?_eq_getElem hj, Option.getD_some] at h1
  exact ⟨by have := h1.1; omega, h1.2.1⟩
theorem items_bd {ks : List KR} {gs : List Int} {its : List IR} (h : itemsP ks gs its) : ∀ i ∈ its, 0 ≤ i.e ∧ i.e < gs.length := fun c hc => by
  obtain ⟨j, hj, rfl⟩ := List.mem_iff_getElem.1 hc
  have h1 := h j hj
  have h0 := lastI_ge' h (show j ≤ its.length by omega)
  rw [List.getD_eq_getElem?_getD, List.getElem?_eq_getElem hj, Option.getD_some] at h1
  exact ⟨by have := h1.1; omega, h1.2.1⟩
/-- Components merged, where each is that of one list. -/
theorem comps_to {s : Int} {ks : List KR} {o x y z : List CR} (hz : heldP ks z) (h : ∀ k, pickC s k (fc o k) (fc x k) (fc y k) = (fc z k, [])) : ∀ K : Nat, compsOut s o x y K = (z.filter fun c => decide (c.kind < (K : Int))).map CR.d ∧ compsCl s o x y K = []
  | 0 => ⟨by rw [List.filter_eq_nil_iff.2 (fun c hc => by have := held_bd hz c hc; simp; omega)]; rfl, rfl⟩
  | K + 1 => by
    obtain ⟨h1, h2⟩ := comps_to hz h K
    have hn := filt_next CR.kind (K : Int) (comps_pair hz)
    refine ⟨?_, by rw [compsCl, h2, h]; rfl⟩
    rw [compsOut, h1, h, show ((K + 1 : Nat) : Int) = (K : Int) + 1 from by omega, hn, List.map_append]
    congr 1
    unfold fc findC
    cases hf : z.find? (fun c => decide (c.kind = (K : Int))) with
    | none => rfl
    | some c =>
      have : c.kind = (K : Int) := by simpa using List.find?_some hf
      simp only [Option.map_some, Option.toList_some, List.map_cons, List.map_nil]
      unfold CR.d; rw [this]
theorem comps_all {s : Int} {ks : List KR} {o x y z : List CR} (hz : heldP ks z) (h : ∀ k, pickC s k (fc o k) (fc x k) (fc y k) = (fc z k, [])) {K : Nat} (hK : ks.length ≤ K) : compsOut s o x y K = z.map CR.d ∧ compsCl s o x y K = [] := by
  obtain ⟨h1, h2⟩ := comps_to hz h K
  rw [List.filter_eq_self.2 (fun c hc => by have := held_bd hz c hc; simp; omega)] at h1
  exact ⟨h1, h2⟩
theorem vals_to {o x y z : List Int} (hl : z.length = x.length) (h : ∀ j, mOut (o.getD j 0) (x.getD j 0) (y.getD j 0) = z.getD j 0) : valsOut o x y = z := by
  unfold valsOut
  refine ext_getD (by rw [mix_len, hl]) fun j hj => ?_
  rw [mix_len] at hj
  rw [mix_get hj, if_pos hj, h]
theorem cl_nil {s k : Int} {o x y : List Int} {n : Nat} (h : ∀ j, ¬ mBad (o.getD j 0) (x.getD j 0) (y.getD j 0)) : valsCl s k o x y n = [] := by
  unfold valsCl
  rw [List.filter_eq_nil_iff.2 (fun j _ => by simpa using h j)]; rfl
theorem pickA {s k : Int} {o x : Option (List Int)} : pickC s k o x o = (x, []) := by
  unfold pickC
  split
  · rename_i h
    obtain ⟨a, rfl⟩ := Option.isSome_iff_exists.1 h.2.1
    obtain ⟨b, rfl⟩ := Option.isSome_iff_exists.1 h.1
    simp only [Option.getD_some]
    rw [vals_to (z := a) rfl (fun j => by unfold mOut; rw [if_pos (.inr rfl)]), cl_nil (fun j hh => hh.1 (.inr rfl))]
  · split
    · rfl
    · split
      · rfl
      · rename_i h; exact absurd rfl h
theorem pickD {s k : Int} {o x : Option (List Int)} : pickC s k o x x = (x, []) := by
  unfold pickC
  split
  · rename_i h
    obtain ⟨a, rfl⟩ := Option.isSome_iff_exists.1 h.2.1
    obtain ⟨b, rfl⟩ := Option.isSome_iff_exists.1 h.1
    simp only [Option.getD_some]
    rw [vals_to (z := a) rfl (fun j => by unfold mOut; rw [if_pos (.inl rfl)]), cl_nil (fun j hh => hh.1 (.inl rfl))]
  · rw [if_pos rfl]
theorem pickB {s k : Int} {o y : Option (List Int)} (hl : ∀ a c, o = some a → y = some c → c.length = a.length) : pickC s k o o y = (y, []) := by
  unfold pickC
  split
  · rename_i h
    obtain ⟨a, rfl⟩ := Option.isSome_iff_exists.1 h.1
    obtain ⟨b, rfl⟩ := Option.isSome_iff_exists.1 h.2.2
    simp only [Option.getD_some]
    rw [vals_to (z := b) (hl a b rfl rfl) (fun j => by unfold mOut; split; (· rename_i h; rcases h with h | h <;> rw [h]); (· rw [if_pos rfl])), cl_nil (fun j hh => hh.2 rfl)]
  · split
    · rename_i h; rw [h]
    · rw [if_pos rfl]
theorem slotA {K : Nat} {n : Int} {ks : List KR} {o x : Option IR} (hx : ∀ i, x = some i → heldP ks i.cs) (hK : ks.length ≤ K) : slotP K n o x o = (x.map IR.d, []) := by
  unfold slotP
  split
  · rename_i h
    obtain ⟨a, rfl⟩ := Option.isSome_iff_exists.1 h.1.2.1
    simp only [Option.getD_some]
    obtain ⟨h1, h2⟩ := comps_all (s := a.e) (o := (o.getD default).cs) (x := a.cs) (y := (o.getD default).cs) (hx a rfl) (fun k => pickA) hK
    rw [h1, h2]; rfl
  · unfold restP
    split
    · rfl
    · split
      · rfl
      · rename_i h; exact absurd rfl h
theorem slotD {K : Nat} {n : Int} {ks : List KR} {o x : Option IR} (hx : ∀ i, x = some i → heldP ks i.cs) (hK : ks.length ≤ K) : slotP K n o x x = (x.map IR.d, []) := by
  unfold slotP
  split
  · rename_i h
    obtain ⟨a, rfl⟩ := Option.isSome_iff_exists.1 h.1.2.1
    simp only [Option.getD_some]
    obtain ⟨h1, h2⟩ := comps_all (s := a.e) (o := (o.getD default).cs) (x := a.cs) (y := a.cs) (hx a rfl) (fun k => pickD) hK
    rw [h1, h2]; rfl
  · unfold restP
    rw [if_pos rfl]
theorem slotB {K : Nat} {n : Int} {ks : List KR} {o y : Option IR} (ho : ∀ i, o = some i → heldP ks i.cs) (hy : ∀ i, y = some i → heldP ks i.cs) (hK : ks.length ≤ K) : slotP K n o o y = (y.map IR.d, []) := by
  unfold slotP
  split
  · rename_i h
    obtain ⟨a, rfl⟩ := Option.isSome_iff_exists.1 h.1.1
    obtain ⟨b, rfl⟩ := Option.isSome_iff_exists.1 h.1.2.2
    have he := h.2.2
    simp only [Option.getD_some] at he ⊢
    obtain ⟨h1, h2⟩ := comps_all (s := a.e) (o := a.cs) (x := a.cs) (y := b.cs) (hy b rfl) (fun k => pickB fun u v hu hv => by
      unfold fc at hu hv
      cases hf : findC a.cs k with
      | none => rw [hf] at hu; cases hu
      | some c =>
        cases hg : findC b.cs k with
        | none => rw [hg] at hv; cases hv
        | some d =>
          rw [hf] at hu; rw [hg] at hv
          simp only [Option.map_some, Option.some.injEq] at hu hv
          have hs := sameLen_of rfl rfl (ho a rfl) (ho a rfl) (hy b rfl) k c c d hf hf hg
          rw [← hu, ← hv]; exact hs.2.1) hK
    rw [h1, h2]
    simp only [Option.map_some]
    unfold IR.d; rw [he.1, he.2]
  · unfold restP
    split
    · rename_i h; rw [h]
    · rw [if_pos rfl]
theorem mGs_get {K : Nat} {wo wx wy : WR} : ∀ {i j : Nat}, j < i → (mGs K wo wx wy i).getD j 0 = genAt K wo wx wy j
  | 0, _, h => absurd h (Nat.not_lt_zero _)
  | i + 1, j, h => by
    rw [mGs, getD_snoc (by rw [mGs_len]; exact h), mGs_len]
    by_cases e : j = i
    · rw [if_pos e, e]
    · rw [if_neg e]; exact mGs_get (by omega)
theorem mIts_to {K : Nat} {wo wx wy a : WR} (ha : itemsP a.ks a.gs a.its) (h : ∀ i, mergeAt K wo wx wy i = ((findI a.its (i : Nat)).map IR.d, [])) : ∀ N : Nat, mIts K wo wx wy N = (a.its.filter fun c => decide (c.e < (N : Int))).map IR.d ∧ mCl K wo wx wy N = []
  | 0 => ⟨by rw [List.filter_eq_nil_iff.2 (fun c hc => by have := items_bd ha c hc; simp; omega)]; rfl, rfl⟩
  | N + 1 => by
    obtain ⟨h1, h2⟩ := mIts_to ha h N
    have hn := filt_next IR.e (N : Int) (items_pair ha)
    refine ⟨?_, by rw [mCl, h2, h]; rfl⟩
    rw [mIts, h1, h, show ((N + 1 : Nat) : Int) = (N : Int) + 1 from by omega, hn, List.map_append]
    congr 1
    unfold findI
    cases hf : a.its.find? (fun c => decide (c.e = (N : Int))) <;> rfl
/-- A merge of which the result is one of the versions. -/
theorem one_data {K : Nat} {wo wx wy a : WR} (ha : gensP a.gs ∧ itemsP a.ks a.gs a.its) (h : ∀ i, mergeAt K wo wx wy i = ((findI a.its (i : Nat)).map IR.d, [])) {N : Nat} (hN : N = a.gs.length) (hg : ∀ i, i < a.gs.length → gTo wo wx wy i 3 = a.gs.getD i 0) : mIts K wo wx wy N = a.its.map IR.d ∧ mGs K wo wx wy N = a.gs ∧ mCl K wo wx wy N = [] := by
  obtain ⟨h1, h2⟩ := mIts_to ha.2 h N
  rw [List.filter_eq_self.2 (fun c hc => by have := items_bd ha.2 c hc; simp; omega)] at h1
  refine ⟨h1, ext_getD (by rw [mGs_len, hN]) fun j hj => ?_, h2⟩
  rw [mGs_len] at hj
  rw [mGs_get hj]
  unfold genAt
  rw [h]
  cases hf : findI a.its (j : Nat) with
  | none => exact hg j (by omega)
  | some i => exact (find_held ha.2 hf).2.2.2.1
theorem te_zero {wo wx wy : WR} (h0 : wErr wo.ks wo.gs wo.its = 0) (h1 : wErr wx.ks wx.gs wx.its = 0) (h2 : wErr wy.ks wy.gs wy.its = 0) (e1 : wo.ks.map KR.d = wx.ks.map KR.d) (e2 : wo.ks.map KR.d = wy.ks.map KR.d) : threeErr wo wx wy = 0 := by
  unfold threeErr; rw [if_neg (fun hh => hh h0), if_neg (fun hh => hh h1), if_neg (fun hh => hh h2), if_pos ⟨e1, e2⟩]

end Go.Proofs.Ytacmbiohjiogiaa.K
