/- Plain laws of the merge: worlds merged are valid. No condition beyond what each statement names. -/
import Derived.Test.YtacmbiohjiogiaaProg
import Derived.Test.YtacmbiohjiogiaaK17
import Derived.Test.YtacmbiohjiogiaaM1
import Derived.Test.YtacmbiohjiogiaaM2
import Derived.Test.YtacmbiohjiogiaaW1
import Derived.Test.YtacmbiohjiogiaaW2
import Derived.Test.YtacmbiohjiogiaaW3
import Derived.Test.YtacmbiohjiogiaaW4
import Derived.Test.YtacmbiohjiogiaaW5
import Derived.Test.YtacmbiohjiogiaaW6
import Derived.Test.YtacmbiohjiogiaaW7
import Derived.Test.YtacmbiohjiogiaaW8
import Derived.Test.YtacmbiohjiogiaaX1
import Derived.Test.YtacmbiohjiogiaaX2
import Derived.Test.YtacmbiohjiogiaaX3
import Derived.Test.YtacmbiohjiogiaaX4
import Derived.Test.YtacmbiohjiogiaaX5
import Derived.Test.YtacmbiohjiogiaaX6
import Derived.Test.YtacmbiohjiogiaaX7
import Derived.Test.YtacmbiohjiogiaaX8
import Derived.Test.YtacmbiohjiogiaaX9
import Derived.Test.YtacmbiohjiogiaaX11
import Derived.Test.YtacmbiohjiogiaaX12
set_option linter.unusedVariables false
set_option linter.unusedSimpArgs false
set_option maxRecDepth 100000
namespace Go.Proofs.Ytacmbiohjiogiaa.K
open Go.RowKit

theorem good_held {ks : List KR} {cs : List CR} (h : heldP ks cs) : goodDs ks ks.length (cs.map CR.d) := by
  refine ⟨List.pairwise_map.2 (comps_pair h), fun d hd => ?_⟩
  obtain ⟨c, hc, rfl⟩ := List.mem_map.1 hd
  have h1 := held_bd h c hc
  obtain ⟨j, hj, rfl⟩ := List.mem_iff_getElem.1 hc
  have h2 := (h j hj).2.2
  rw [show cs.getD j default = cs[j] from by simp [List.getD_eq_getElem?_getD, hj]] at h2
  exact ⟨h1.1, h1.2, h2⟩
/-- An entity as it is told. -/
def goodE (ks : List KR) (n : Int) (d : Int × Int × List (Int × List Int)) : Prop := d.1 = n ∧ (0 ≤ d.2.1 ∧ d.2.1 < 1073741824) ∧ goodDs ks ks.length d.2.2
theorem find_good {ks : List KR} {gs : List Int} {its : List IR} (h : itemsP ks gs its) (hg : gensP gs) {n : Int} {i : IR} (hi : findI its n = some i) : goodE ks n i.d := by
  obtain ⟨h1, h2, h3, h4, h5, h6⟩ := find_held h hi
  have := hg n.toNat (by omega)
  exact ⟨h1, (show 0 ≤ i.g ∧ i.g < 1073741824 by omega), good_held h6⟩
theorem slot_good {ks : List KR} {K : Nat} {n : Int} {o x y : Option IR} (hx : ∀ i, x = some i → goodE ks n i.d ∧ heldP ks i.cs) (hy : ∀ i, y = some i → goodE ks n i.d ∧ heldP ks i.cs) (hK : K ≤ ks.length) {d : Int × Int × List (Int × List Int)} (h : (slotP K n o x y).1 = some d) : goodE ks n d := by
  have hmap : ∀ z : Option IR, (∀ i, z = some i → goodE ks n i.d ∧ heldP ks i.cs) → z.map IR.d = some d → goodE ks n d := fun z hz e => by
    cases z with
    | none => cases e
    | some i => simp only [Option.map_some, Option.some.injEq] at e; rw [← e]; exact (hz i rfl).1
  by_cases hf : firstP o x y
  · unfold slotP at h
    rw [if_pos hf] at h
    obtain ⟨b, rfl⟩ := Option.isSome_iff_exists.1 hf.1.2.1
    obtain ⟨c, rfl⟩ := Option.isSome_iff_exists.1 hf.1.2.2
    simp only [Option.getD_some, Option.some.injEq] at h
    obtain ⟨b1, b2⟩ := hx b rfl
    rw [← h]
    exact ⟨b1.1, b1.2.1, goodDs_more (comps_good b2 (hy c rfl).2 K) (by omega)⟩
  · rw [slotP_not hf] at h
    unfold restP at h
    split at h
    · exact hmap x hx h
    · split at h
      · exact hmap y hy h
      · split at h
        · exact hmap x hx h
        · exact hmap x hx h
theorem gTo_bd {wo wx wy : WR} (ho : gensP wo.gs) (hx : gensP wx.gs) (hy : gensP wy.gs) (i : Nat) : 0 ≤ gTo wo wx wy i 3 ∧ gTo wo wx wy i 3 ≤ 1073741824 := by
  have h1 := ho i
  have h2 := hx i
  have h3 := hy i
  simp only [gTo, stepG]
  split <;> split <;> split <;> omega
theorem its_good {ks : List KR} {K : Nat} {wo wx wy : WR} (h : ∀ i d, (mergeAt K wo wx wy i).1 = some d → goodE ks (i : Nat) d) : ∀ N : Nat, (mIts K wo wx wy N).Pairwise (fun a b => a.1 < b.1) ∧ (mIts K wo wx wy N).length ≤ N ∧ ∀ d ∈ mIts K wo wx wy N, ∃ i : Nat, i < N ∧ (mergeAt K wo wx wy i).1 = some d
  | 0 => ⟨List.Pairwise.nil, Nat.le_refl _, fun d hd => absurd hd List.not_mem_nil⟩
  | N + 1 => by
    obtain ⟨h1, h2, h3⟩ := its_good h N
    rw [mIts]
    cases hp : (mergeAt K wo wx wy N).1 with
    | none => simp only [Option.toList_none, List.append_nil]; exact ⟨h1, by omega, fun d hd => by obtain ⟨i, hi, e⟩ := h3 d hd; exact ⟨i, by omega, e⟩⟩
    | some v =>
      simp only [Option.toList_some]
      refine ⟨List.pairwise_append.2 ⟨h1, List.pairwise_singleton _ _, fun a ha b hb => ?_⟩, by simp only [List.length_append, List.length_singleton]; omega, fun d hd => ?_⟩
      · obtain rfl := List.mem_singleton.1 hb
        obtain ⟨i, hi, e⟩ := h3 a ha
        have e1 := (h i a e).1
        have e2 := (h N b hp).1
        omega
      · rcases List.mem_append.1 hd with hd | hd
        · obtain ⟨i, hi, e⟩ := h3 d hd; exact ⟨i, by omega, e⟩
        · obtain rfl := List.mem_singleton.1 hd; exact ⟨N, by omega, hp⟩
/-- A merge of valid worlds is a valid world. -/
theorem merged_ok {K N : Nat} {wo wx wy w' : WR} (ho : wErr wo.ks wo.gs wo.its = 0) (hx : wErr wx.ks wx.gs wx.its = 0) (hy : wErr wy.ks wy.gs wy.its = 0) (ex : wo.ks.map KR.d = wx.ks.map KR.d) (ey : wo.ks.map KR.d = wy.ks.map KR.d) (hK : K = wo.ks.length) (hN : N ≤ 256)
    (e1 : w'.ks.map KR.d = wo.ks.map KR.d) (e2 : w'.gs = mGs K wo wx wy N) (e3 : w'.its.map IR.d = mIts K wo wx wy N) : wErr w'.ks w'.gs w'.its = 0 := by
  obtain ⟨o1, o2, o3, o4⟩ := wErr_zero ho
  obtain ⟨x1, x2, x3, x4⟩ := wErr_zero hx
  obtain ⟨y1, y2, y3, y4⟩ := wErr_zero hy
  have hkl : w'.ks.length = wo.ks.length := by have := congrArg List.length e1; simpa using this
  have itk : ∀ {ks : List KR} {gs : List Int} {its : List IR}, wo.ks.map KR.d = ks.map KR.d → itemsP ks gs its → itemsP w'.ks gs its := fun e h j hj => by
    obtain ⟨a1, a2, a3, a4, a5⟩ := h j hj
    exact ⟨a1, a2, a3, a4, held_ks (e.symm.trans e1.symm) a5⟩
  have hat : ∀ i d, (mergeAt K wo wx wy i).1 = some d → goodE w'.ks (i : Nat) d := fun i d hd =>
    slot_good (fun z hz => ⟨find_good (itk ex x4) x3 hz, (find_held (itk ex x4) hz).2.2.2.2.2⟩) (fun z hz => ⟨find_good (itk ey y4) y3 hz, (find_held (itk ey y4) hz).2.2.2.2.2⟩) (by omega) hd
  obtain ⟨g1, g2, g3⟩ := its_good hat N
  have hgl : w'.gs.length = N := by rw [e2, mGs_len]
  have hil : w'.its.length ≤ N := by have := congrArg List.length e3; rw [List.length_map] at this; omega
  have hmem : ∀ j, j < w'.its.length → ∃ i : Nat, i < N ∧ (mergeAt K wo wx wy i).1 = some (w'.its.getD j default).d := fun j hj => g3 _ (e3 ▸ List.mem_map_of_mem (getD_mem' hj))
  refine wErr_ok ((ckErr_d e1).trans o1) (by omega) (fun j hj => ?_) (fun j hj => ?_)
  · rw [e2, mGs_get (by omega)]
    unfold genAt
    cases hp : (mergeAt K wo wx wy j).1 with
    | none => exact gTo_bd o3 x3 y3 j
    | some d => have := (hat j d hp).2.1; dsimp only; omega
  · obtain ⟨i, hi, he⟩ := hmem j hj
    obtain ⟨f1, f2, f3⟩ := hat i _ he
    have f1' : (w'.its.getD j default).e = (i : Int) := f1
    have f2' : 0 ≤ (w'.its.getD j default).g ∧ (w'.its.getD j default).g < 1073741824 := f2
    refine ⟨?_, by omega, ?_, by omega, held_good f3 (Int.le_refl _)⟩
    · cases j with
      | zero => simp only [lastI]; omega
      | succ j =>
        rw [← e3] at g1
        have hp := List.pairwise_iff_getElem.1 g1 j (j + 1) (by rw [List.length_map]; omega) (by rw [List.length_map]; omega) (by omega)
        simp only [List.getElem_map] at hp
        simp only [lastI]
        simpa [List.getD_eq_getElem?_getD, hj, show j < w'.its.length by omega, IR.d] using hp
    · rw [f1', e2, show ((i : Nat) : Int).toNat = i from rfl, mGs_get hi]
      unfold genAt
      rw [he]; rfl

end Go.Proofs.Ytacmbiohjiogiaa.K
