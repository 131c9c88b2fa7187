/- Plain laws of the merge: what is merged is valid. No condition beyond what each statement names. -/
import Derived.Test.YtacmbiohjiogiaaProg
import Derived.Test.YtacmbiohjiogiaaK17
import Derived.Test.YtacmbiohjiogiaaM1
import Derived.Test.YtacmbiohjiogiaaM2
import Derived.Test.YtacmbiohjiogiaaW1
import Derived.Test.YtacmbiohjiogiaaW2
import Derived.Test.YtacmbiohjiogiaaW3
import Derived.Test.YtacmbiohjiogiaaW4
import Derived.Test.YtacmbiohjiogiaaW5
import Derived.Test.YtacmbiohjiogiaaW6
import Derived.Test.YtacmbiohjiogiaaW7
import Derived.Test.YtacmbiohjiogiaaW8
import Derived.Test.YtacmbiohjiogiaaX1
import Derived.Test.YtacmbiohjiogiaaX2
import Derived.Test.YtacmbiohjiogiaaX3
import Derived.Test.YtacmbiohjiogiaaX4
import Derived.Test.YtacmbiohjiogiaaX5
import Derived.Test.YtacmbiohjiogiaaX6
import Derived.Test.YtacmbiohjiogiaaX7
import Derived.Test.YtacmbiohjiogiaaX8
import Derived.Test.YtacmbiohjiogiaaX9
import Derived.Test.YtacmbiohjiogiaaX11
set_option linter.unusedVariables false
set_option linter.unusedSimpArgs false
set_option maxRecDepth 100000
namespace Go.Proofs.Ytacmbiohjiogiaa.K
open Go.RowKit

theorem kd_get {ks ks' : List KR} (h : ks.map KR.d = ks'.map KR.d) (j : Nat) : (ks.getD j default).d = (ks'.getD j default).d := by
  have h1 : (ks.map KR.d)[j]? = (ks'.map KR.d)[j]? := by rw [h]
  simp only [List.getElem?_map] at h1
  simp only [List.getD_eq_getElem?_getD]
  cases h2 : ks[j]? <;> cases h3 : ks'[j]? <;> rw [h2, h3] at h1 <;> simp at h1 <;> simp [h1]
theorem oneErr_d {k k' : KR} (h : k.d = k'.d) : oneErr k = oneErr k' := by
  have e1 : k.name = k'.name := congrArg Prod.fst h
  have e2 : k.fs = k'.fs := congrArg Prod.snd h
  unfold oneErr; rw [e1, e2]
theorem holds_d {k k' : KR} {vs : List Int} (h : k.d = k'.d) (hv : holdsV k vs) : holdsV k' vs := by
  have e2 : k.fs = k'.fs := congrArg Prod.snd h
  unfold holdsV fitErr at hv ⊢
  rw [← oneErr_d h, ← e2]; exact hv
theorem chTo_d {ks ks' : List KR} (h : ks.map KR.d = ks'.map KR.d) : ∀ n, chTo ks n = chTo ks' n
  | 0 => rfl
  | n + 1 => by
    have hd : dupK ks n ↔ dupK ks' n := by
      have e : ∀ j, (ks.getD j default).name = (ks'.getD j default).name := fun j => congrArg Prod.fst (kd_get h j)
      unfold dupK
      constructor <;> rintro ⟨j, hj, e1⟩
      · exact ⟨j, hj, by rw [← e, ← e]; exact e1⟩
      · exact ⟨j, hj, by rw [e, e]; exact e1⟩
    simp only [chTo]
    rw [chTo_d h n, oneErr_d (kd_get h n)]
    simp only [hd]
theorem ckErr_d {ks ks' : List KR} (h : ks.map KR.d = ks'.map KR.d) : ckErr ks = ckErr ks' := by
  have hl : ks.length = ks'.length := by have := congrArg List.length h; simpa using this
  unfold ckErr
  rw [hl, chTo_d h]
theorem mOut_or (o x y : Int) : mOut o x y = x ∨ mOut o x y = y := by
  unfold mOut
  split
  · exact .inl rfl
  · split
    · exact .inr rfl
    · exact .inl rfl
/-- Values merged are those of the kind. -/
theorem pick_holds {s k : Int} {kd : KR} {o x y : Option (List Int)} (hx : ∀ v, x = some v → holdsV kd v) (hy : ∀ v, y = some v → holdsV kd v) {v : List Int} (h : (pickC s k o x y).1 = some v) : holdsV kd v := by
  by_cases h0 : o.isSome = true ∧ x.isSome = true ∧ y.isSome = true
  · obtain ⟨a, rfl⟩ := Option.isSome_iff_exists.1 h0.1
    obtain ⟨b, rfl⟩ := Option.isSome_iff_exists.1 h0.2.1
    obtain ⟨c, rfl⟩ := Option.isSome_iff_exists.1 h0.2.2
    rw [pick_some] at h
    simp only [Option.some.injEq] at h
    obtain ⟨b1, b2, b3⟩ := holds_fits (hx b rfl)
    obtain ⟨c1, c2, c3⟩ := holds_fits (hy c rfl)
    rw [← h]
    unfold valsOut
    refine holds_of b1 (by rw [mix_len]; exact b2) fun j hj => ?_
    rw [mix_get (by omega), if_pos (by omega)]
    rcases mOut_or (a.getD j 0) (b.getD j 0) (c.getD j 0) with e | e <;> rw [e]
    · exact b3 j hj
    · exact c3 j hj
  · unfold pickC at h
    rw [if_neg h0] at h
    split at h
    · exact hx v h
    · split at h
      · exact hy v h
      · split at h
        · exact hx v h
        · exact hx v h
/-- Components as they are told: sorted, each that of a kind. -/
def goodDs (ks : List KR) (m : Int) (ds : List (Int × List Int)) : Prop := ds.Pairwise (fun a b => a.1 < b.1) ∧ ∀ d ∈ ds, 0 ≤ d.1 ∧ d.1 < m ∧ holdsV (ks.getD d.1.toNat default) d.2
theorem goodDs_snoc {ks : List KR} {m : Int} {ds : List (Int × List Int)} (h : goodDs ks m ds) (hm : 0 ≤ m) {v : List Int} (hv : holdsV (ks.getD m.toNat default) v) : goodDs ks (m + 1) (ds ++ [(m, v)]) := by
  refine ⟨List.pairwise_append.2 ⟨h.1, List.pairwise_singleton _ _, fun a ha b hb => ?_⟩, fun d hd => ?_⟩
  · obtain rfl := List.mem_singleton.1 hb
    exact (h.2 a ha).2.1
  · rcases List.mem_append.1 hd with hd | hd
    · have := h.2 d hd; exact ⟨this.1, by omega, this.2.2⟩
    · obtain rfl := List.mem_singleton.1 hd
      exact ⟨hm, by dsimp only; omega, hv⟩
theorem goodDs_more {ks : List KR} {m m' : Int} {ds : List (Int × List Int)} (h : goodDs ks m ds) (hm : m ≤ m') : goodDs ks m' ds := ⟨h.1, fun d hd => by have := h.2 d hd; exact ⟨this.1, by omega, this.2.2⟩⟩
theorem fc_holds {ks : List KR} {cs : List CR} (h : heldP ks cs) {k : Int} {v : List Int} (hv : fc cs k = some v) : holdsV (ks.getD k.toNat default) v := by
  unfold fc at hv
  cases hf : findC cs k with
  | none => rw [hf] at hv; cases hv
  | some c =>
    rw [hf] at hv
    simp only [Option.map_some, Option.some.injEq] at hv
    rw [← hv]; exact (held_find h hf).2.2.2
theorem comps_good {ks : List KR} {s : Int} {o x y : List CR} (hx : heldP ks x) (hy : heldP ks y) : ∀ K : Nat, goodDs ks (K : Int) (compsOut s o x y K)
  | 0 => ⟨List.Pairwise.nil, fun d hd => absurd hd List.not_mem_nil⟩
  | K + 1 => by
    have ih := comps_good (s := s) (o := o) hx hy K
    rw [compsOut, show ((K + 1 : Nat) : Int) = (K : Int) + 1 from by omega]
    cases hp : (pickC s (K : Nat) (fc o (K : Nat)) (fc x (K : Nat)) (fc y (K : Nat))).1 with
    | none => simp only [Option.toList_none, List.map_nil, List.append_nil]; exact goodDs_more ih (by omega)
    | some v =>
      simp only [Option.toList_some, List.map_cons, List.map_nil]
      exact goodDs_snoc ih (by omega) (pick_holds (fun u hu => fc_holds hx hu) (fun u hu => fc_holds hy hu) hp)
theorem held_ks {ks ks' : List KR} (h : ks.map KR.d = ks'.map KR.d) {cs : List CR} (hc : heldP ks cs) : heldP ks' cs := fun j hj => by
  obtain ⟨h1, h2, h3⟩ := hc j hj
  have hl : ks.length = ks'.length := by have := congrArg List.length h; simpa using this
  exact ⟨h1, by omega, holds_d (kd_get h _) h3⟩
theorem held_good {ks : List KR} {cs : List CR} {m : Int} (h : goodDs ks m (cs.map CR.d)) (hm : m ≤ ks.length) : heldP ks cs := fun j hj => by
  have hmem := h.2 (cs.getD j default).d (List.mem_map_of_mem (getD_mem' hj))
  have hk : (cs.getD j default).d.1 = (cs.getD j default).kind := rfl
  refine ⟨?_, by rw [← hk]; omega, hmem.2.2⟩
  cases j with
  | zero => simp only [lastC]; rw [← hk]; omega
  | succ j =>
    have hp := List.pairwise_iff_getElem.1 h.1 j (j + 1) (by rw [List.length_map]; omega) (by rw [List.length_map]; omega) (by omega)
    simp only [List.getElem_map] at hp
    simp only [lastC]
    simpa [List.getD_eq_getElem?_getD, hj, show j < cs.length by omega, CR.d] using hp

end Go.Proofs.Ytacmbiohjiogiaa.K
