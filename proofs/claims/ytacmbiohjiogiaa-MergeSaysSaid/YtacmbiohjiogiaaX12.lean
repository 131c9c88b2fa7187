/- Plain laws of the merge: what is merged is valid. No condition beyond what each statement names. -/
import Derived.Test.YtacmbiohjiogiaaProg
import Derived.Test.YtacmbiohjiogiaaK17
import Derived.Test.YtacmbiohjiogiaaM1
import Derived.Test.YtacmbiohjiogiaaM2
import Derived.Test.YtacmbiohjiogiaaW1
import Derived.Test.YtacmbiohjiogiaaW2
import Derived.Test.YtacmbiohjiogiaaW3
import Derived.Test.YtacmbiohjiogiaaW4
import Derived.Test.YtacmbiohjiogiaaW5
import Derived.Test.YtacmbiohjiogiaaW6
import Derived.Test.YtacmbiohjiogiaaW7
import Derived.Test.YtacmbiohjiogiaaW8
import Derived.Test.YtacmbiohjiogiaaX1
import Derived.Test.YtacmbiohjiogiaaX2
import Derived.Test.YtacmbiohjiogiaaX3
import Derived.Test.YtacmbiohjiogiaaX4
import Derived.Test.YtacmbiohjiogiaaX5
import Derived.Test.YtacmbiohjiogiaaX6
import Derived.Test.YtacmbiohjiogiaaX7
import Derived.Test.YtacmbiohjiogiaaX8
import Derived.Test.YtacmbiohjiogiaaX9
import Derived.Test.YtacmbiohjiogiaaX11
set_option linter.unusedVariables false
set_option linter.unusedSimpArgs false
set_option maxRecDepth 100000
namespace Go.Proofs.Ytacmbiohjiogiaa.K
open Go.RowKit

theorem kd_get {ks ks' : List KR} (h : ks.map KR.d = ks'.map KR.d) (j : Nat) : (ks.getD j default).d = (ks'.getD j default).d := by
 have h1 : (ks.map KR.d)[j]? = (ks'.map KR.d)[j]? := by rw [h]
 simp only [List.getElem?_map] at h1; simp only [List.getD_eq_getElem?_getD]
 cases h2 : ks[j]? <;> cases h3 : ks'[j]? <;> rw [h2, h3] at h1 <;> simp at h1 <;> simp [h1]
theorem oneErr_d {k k' : KR} (h : k.d = k'.d) : oneErr k = oneErr k' := by
 have e1 : k.name = k'.name := congrArg Prod.fst h; have e2 : k.fs = k'.fs := congrArg Prod.snd h; unfold oneErr; rw [e1, e2]
theorem chTo_d {ks ks' : List KR} (h : ks.map KR.d = ks'.map KR.d) : ∀ n, chTo ks n = chTo ks' n
 | 0 => rfl
 | n + 1 => by
  have hd : dupK ks n ↔ dupK ks' n := by
   have e : ∀ j, (ks.getD j default).name = (ks'.getD j default).name := fun j => congrArg Prod.fst (kd_get h j); unfold dupK
   constructor <;> rintro ⟨j, hj, e1⟩
   ·exact ⟨j, hj, by rw [← e, ← e]; exact e1⟩
   ·exact ⟨j, hj, by rw [e, e]; exact e1⟩
  simp only [chTo]; rw [chTo_d h n, oneErr_d (kd_get h n)]; simp only [hd]
theorem ckErr_d {ks ks' : List KR} (h : ks.map KR.d = ks'.map KR.d) : ckErr ks = ckErr ks' := by
 have hl : ks.length = ks'.length := by have := congrArg List.length h; simpa using this
 unfold ckErr; rw [hl, chTo_d h]
end Go.Proofs.Ytacmbiohjiogiaa.K
