/- Plain laws of the merge: both versions turned. No condition beyond what each statement names. -/
import Derived.Test.YtacmbiohjiogiaaProg
import Derived.Test.YtacmbiohjiogiaaK17
import Derived.Test.YtacmbiohjiogiaaM1
import Derived.Test.YtacmbiohjiogiaaM2
import Derived.Test.YtacmbiohjiogiaaW1
import Derived.Test.YtacmbiohjiogiaaW2
import Derived.Test.YtacmbiohjiogiaaW3
import Derived.Test.YtacmbiohjiogiaaW4
import Derived.Test.YtacmbiohjiogiaaW5
import Derived.Test.YtacmbiohjiogiaaW6
import Derived.Test.YtacmbiohjiogiaaW7
import Derived.Test.YtacmbiohjiogiaaW8
import Derived.Test.YtacmbiohjiogiaaX1
import Derived.Test.YtacmbiohjiogiaaX2
import Derived.Test.YtacmbiohjiogiaaX3
import Derived.Test.YtacmbiohjiogiaaX4
import Derived.Test.YtacmbiohjiogiaaX5
import Derived.Test.YtacmbiohjiogiaaX6
import Derived.Test.YtacmbiohjiogiaaX7
import Derived.Test.YtacmbiohjiogiaaX8
import Derived.Test.YtacmbiohjiogiaaX9
set_option linter.unusedVariables false
set_option linter.unusedSimpArgs false
set_option maxRecDepth 100000
namespace Go.Proofs.Ytacmbiohjiogiaa.K
open Go.RowKit

theorem mBad_turn {o x y : Int} : mBad o x y ↔ mBad o y x := by unfold mBad; omega
theorem mOut_turn {o x y : Int} (h : ¬ mBad o x y) : mOut o x y = mOut o y x := by
  unfold mBad at h
  unfold mOut
  split <;> split <;> (try split) <;> (try split) <;> omega
theorem vcl_turn {s k : Int} {o x y : List Int} {n : Nat} : valsCl s k o x y n = valsCl s k o y x n := by
  unfold valsCl
  congr 1
  exact List.filter_congr fun j _ => decide_eq_decide.2 mBad_turn
theorem vcl_none {s k : Int} {o x y : List Int} {n : Nat} (h : valsCl s k o x y n = []) : ∀ j, j < n → ¬ mBad (o.getD j 0) (x.getD j 0) (y.getD j 0) := fun j hj hb => by
  unfold valsCl at h
  rw [List.map_eq_nil_iff, List.filter_eq_nil_iff] at h
  exact h j (List.mem_range.2 hj) (by simpa using hb)
theorem vout_turn {o x y : List Int} (hl : x.length = y.length) (h : ∀ j, j < x.length → ¬ mBad (o.getD j 0) (x.getD j 0) (y.getD j 0)) : valsOut o x y = valsOut o y x := by
  unfold valsOut
  refine ext_getD (by rw [mix_len, mix_len, hl]) fun j hj => ?_
  rw [mix_len] at hj
  rw [mix_get hj, mix_get (by omega), if_pos hj, if_pos (by omega), mOut_turn (h j hj)]
theorem pick_turn {s k : Int} {o x y : Option (List Int)} (hl : ∀ a b c, o = some a → x = some b → y = some c → b.length = c.length) : (pickC s k o x y).2 = (pickC s k o y x).2 ∧ ((pickC s k o x y).2 = [] → (pickC s k o x y).1 = (pickC s k o y x).1) := by
  by_cases h : o.isSome = true ∧ x.isSome = true ∧ y.isSome = true
  · obtain ⟨a, rfl⟩ := Option.isSome_iff_exists.1 h.1
    obtain ⟨b, rfl⟩ := Option.isSome_iff_exists.1 h.2.1
    obtain ⟨c, rfl⟩ := Option.isSome_iff_exists.1 h.2.2
    have e := hl a b c rfl rfl rfl
    rw [pick_some, pick_some]
    refine ⟨by dsimp only; rw [vcl_turn, e], fun h0 => ?_⟩
    dsimp only at h0 ⊢
    rw [vout_turn e (vcl_none h0)]
  · unfold pickC
    rw [if_neg h, if_neg (show ¬ (o.isSome = true ∧ y.isSome = true ∧ x.isSome = true) from fun hh => h ⟨hh.1, hh.2.2, hh.2.1⟩)]
    by_cases h1 : x = y
    · subst h1; rw [if_pos rfl]; exact ⟨rfl, fun _ => rfl⟩
    · rw [if_neg h1, if_neg (show ¬ y = x from fun e => h1 e.symm)]
      by_cases h2 : x = o
      · by_cases h3 : y = o
        · exact absurd (h2.trans h3.symm) h1
        · rw [if_pos h2, if_neg h3, if_pos h2]; exact ⟨rfl, fun _ => rfl⟩
      · by_cases h3 : y = o
        · rw [if_neg h2, if_pos h3, if_pos h3]; exact ⟨rfl, fun _ => rfl⟩
        · rw [if_neg h2, if_neg h3, if_neg h3, if_neg h2]; exact ⟨rfl, fun e => by cases e⟩
theorem comps_turn {s : Int} {o x y : List CR} (hs : sameLen o x y) : ∀ K : Nat, compsCl s o x y K = compsCl s o y x K ∧ (compsCl s o x y K = [] → compsOut s o x y K = compsOut s o y x K)
  | 0 => ⟨rfl, fun _ => rfl⟩
  | K + 1 => by
    obtain ⟨h1, h2⟩ := comps_turn hs K
    obtain ⟨h3, h4⟩ := pick_turn (s := s) (k := (K : Nat)) (o := fc o (K : Nat)) (x := fc x (K : Nat)) (y := fc y (K : Nat)) fun a b c ha hb hc => by
      unfold fc at ha hb hc
      cases e1 : findC o (K : Nat) with
      | none => rw [e1] at ha; cases ha
      | some u =>
        cases e2 : findC x (K : Nat) with
        | none => rw [e2] at hb; cases hb
        | some v =>
          cases e3 : findC y (K : Nat) with
          | none => rw [e3] at hc; cases hc
          | some z =>
            rw [e1] at ha; rw [e2] at hb; rw [e3] at hc
            simp only [Option.map_some, Option.some.injEq] at ha hb hc
            have := hs _ u v z e1 e2 e3
            rw [← hb, ← hc]; exact this.2.1.symm
    refine ⟨by rw [compsCl, compsCl, h1, h3], fun h0 => ?_⟩
    rw [compsCl, List.append_eq_nil_iff] at h0
    rw [compsOut, compsOut, h2 h0.1, h4 h0.2]
theorem first_turn {o x y : Option IR} (h : firstP o x y) : firstP o y x := ⟨⟨h.1.1, h.1.2.2, h.1.2.1⟩, h.2.2, h.2.1⟩
theorem slot_turn {K : Nat} {n : Int} {o x y : Option IR} (hs : ∀ a b c, o = some a → x = some b → y = some c → sameLen a.cs b.cs c.cs) : (slotP K n o x y).2 = (slotP K n o y x).2 ∧ ((slotP K n o x y).2 = [] → (slotP K n o x y).1 = (slotP K n o y x).1) := by
  by_cases h : firstP o x y
  · have h' := first_turn h
    unfold slotP
    rw [if_pos h, if_pos h']
    obtain ⟨a, rfl⟩ := Option.isSome_iff_exists.1 h.1.1
    obtain ⟨b, rfl⟩ := Option.isSome_iff_exists.1 h.1.2.1
    obtain ⟨c, rfl⟩ := Option.isSome_iff_exists.1 h.1.2.2
    have e1 := h.2.1
    have e2 := h.2.2
    simp only [Option.getD_some] at e1 e2 ⊢
    obtain ⟨h1, h2⟩ := comps_turn (s := b.e) (hs a b c rfl rfl rfl) K
    have e3 : c.e = b.e := by omega
    have e4 : c.g = b.g := by omega
    rw [e3, e4]
    exact ⟨h1, fun h0 => by rw [h2 h0]⟩
  · rw [slotP_not h, slotP_not (fun hh => h (first_turn hh))]
    unfold restP
    by_cases h1 : x.map IR.d = y.map IR.d
    · rw [if_pos h1, if_pos h1.symm]; exact ⟨rfl, fun _ => h1⟩
    · rw [if_neg h1, if_neg (show ¬ y.map IR.d = x.map IR.d from fun e => h1 e.symm)]
      by_cases h2 : x.map IR.d = o.map IR.d
      · by_cases h3 : y.map IR.d = o.map IR.d
        · exact absurd (h2.trans h3.symm) h1
        · rw [if_pos h2, if_neg h3, if_pos h2]; exact ⟨rfl, fun _ => rfl⟩
      · by_cases h3 : y.map IR.d = o.map IR.d
        · rw [if_neg h2, if_pos h3, if_pos h3]; exact ⟨rfl, fun _ => rfl⟩
        · rw [if_neg h2, if_neg h3, if_neg h3, if_neg h2]; exact ⟨rfl, fun e => by cases e⟩
theorem gTo_turn {wo wx wy : WR} {i : Nat} : gTo wo wx wy i 3 = gTo wo wy wx i 3 := by
  simp only [gTo, stepG]
  congr 1
  repeat' split
  all_goals omega
/-- Both versions of a merge turned. -/
theorem merge_turn {K : Nat} {wo wx wy : WR} (hs : ∀ n a b c, findI wo.its n = some a → findI wx.its n = some b → findI wy.its n = some c → sameLen a.cs b.cs c.cs) : ∀ N : Nat, mCl K wo wx wy N = mCl K wo wy wx N ∧ (mCl K wo wx wy N = [] → mIts K wo wx wy N = mIts K wo wy wx N ∧ mGs K wo wx wy N = mGs K wo wy wx N)
  | 0 => ⟨rfl, fun _ => ⟨rfl, rfl⟩⟩
  | N + 1 => by
    obtain ⟨h1, h2⟩ := merge_turn hs N
    obtain ⟨h3, h4⟩ := slot_turn (K := K) (n := (N : Nat)) (fun a b c ha hb hc => hs (N : Nat) a b c ha hb hc)
    have h3' : (mergeAt K wo wx wy N).2 = (mergeAt K wo wy wx N).2 := h3
    refine ⟨by rw [mCl, mCl, h1, h3'], fun h0 => ?_⟩
    rw [mCl, List.append_eq_nil_iff] at h0
    obtain ⟨h5, h6⟩ := h2 h0.1
    have h7 : (mergeAt K wo wx wy N).1 = (mergeAt K wo wy wx N).1 := h4 h0.2
    refine ⟨by rw [mIts, mIts, h5, h7], ?_⟩
    rw [mGs, mGs, h6]
    unfold genAt
    rw [h7, gTo_turn]

end Go.Proofs.Ytacmbiohjiogiaa.K
