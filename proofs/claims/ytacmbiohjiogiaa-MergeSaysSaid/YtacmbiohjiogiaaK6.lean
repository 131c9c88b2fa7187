/- From the memory at a call to what a law's walk is told, and back. No condition. -/
import Derived.Test.YtacmbiohjiogiaaK5
import Derived.WalkKit
import Derived.ProofKit
import Derived.OpenShut
import Derived.ShutString
import Derived.ChangeOld
import Derived.Below
import Derived.SizedLaws
import Derived.Deep.Slices
import Derived.Deep.Strs
import Derived.Lib.SmallJoins
namespace Go.Proofs.Ytacmbiohjiogiaa.K
open Go.ChangeShapes Go.WideShapes Go.ChangeAt Go.RowKit Go.Deep

def memOf (w : World) : Mem := fun b o => w.heap[b]? = some o
theorem sh_start (w : World) : SH w (memOf w) w [] := ⟨rfl, rfl, rfl, Nat.le_refl _, fun _ _ h => h, by simp, by simp, by simp⟩
theorem SH.below {w w' : World} {L : List Grp} (h : SH w (memOf w) w' L) : Below w.heap.size w w' :=
 ⟨h.os, h.tape, h.output, h.size, fun k hk => by rw [h.imm k w.heap[k] (by simp [memOf, hk])]; simp [hk]⟩
/-- A law's contract, as the row asks for it. -/
theorem law_calls {P : Program} {fid : FuncId} {args : Array Value} {W : World} (h : CallS P fid args (memOf W) [] (fun r _ => r = .bool true)) : Calls P fid args W fun e w' => e = .returned (.bool true) ∧ Below W.heap.size W w' :=
 (h W W (sh_start W)).mono fun _ _ ⟨_, _, h1, h2, h3⟩ => ⟨h3 ▸ h1, h2.below⟩

section
variable {H : Type} {enc : TypeId × Value → H} {P : Program} {w : World} {base : Nat} {spare : Nat → Bool} {held : Bool}
theorem cel_of_cell {a : Addr} {c : Value} (h : w.cell? a = some c) : Cel (memOf w) [] (some a) c := by
 unfold World.cell? at h
 split at h
 ·rename_i arr T fr hb
  split at h
  ·cases h
  ·rename_i hs
   exact ⟨a, arr, T, fr, rfl, by simpa using hs, .inl hb, h⟩
 ·cases h
/-- A slice that came in, of elements of a fixed number of cells. -/
theorem open_elems {α : Type} [Inhabited α] (en : α → List Value) (R : α → Prop) {sz : Nat} (hlen : ∀ x, (en x).length = sz) (hpos : 0 < sz) {t e : TypeId} {fuel : Nat} {cs : List Value} {x : DataW H × List MemPlace} (ht : P.underlying t = some (.slice e)) (hsz : P.cellsOf e = sz)
  (hel : ∀ n cs x, DataW.trod enc P w base spare held n e cs = some x → ∃ a, cs = en a ∧ R a) (h : DataW.trod enc P w base spare held fuel t cs = some x) :
  ∃ (A : Option Addr) (len cap : Nat) (xs : List α), cs = [.slice A len cap] ∧ xs.length = len ∧ len ≤ cap ∧ cap ≤ maxLen ∧ Cels (memOf w) [] A (xs.flatMap en) ∧ (∀ a ∈ xs, R a) ∧ (len = 0 ∨ ∃ el sp, x.1 = .slice el sp ∧ el.length = len) := by
 rcases open_slice ht h with ⟨rfl, rfl⟩ | ⟨a, len, cap, m, n, D, Pl, rfl, _, hl, hm, hme, rfl, hi⟩
 ·exact ⟨none, 0, 0, [], rfl, rfl, Nat.le_refl _, Nat.zero_le _, Cels.nil, by simp, .inl rfl⟩
 ·have hlm : len ≤ m := by rw [hme]; split <;> omega
  have hex : ∀ i, i < len → ∃ b : α, R b ∧ ∀ j, j < sz → w.cell? (a.add (i * sz + j)) = (en b)[j]? := by
   intro i hil; obtain ⟨cs', h1, h2⟩ := hi i (by omega); obtain ⟨b, rfl, hb⟩ := hel _ _ _ h2; obtain ⟨_, h4, h5⟩ := World.cells?_some h1; refine ⟨b, hb, fun j hj => ?_⟩; have := h5 j (by rw [hsz]; exact hj); rw [hsz, Go.Deep.add_add] at this; exact this
  obtain ⟨X, hX⟩ := choose_lt hex; have hg : ∀ i, i < len → ((List.range len).map X).getD i default = X i := fun i hi => by simp [hi]
  refine ⟨some a, len, cap, (List.range len).map X, rfl, by simp, hl, hm, ?_, ?_, .inr ⟨_, _, rfl, by simp⟩⟩
  ·intro q c hq; have hql : q < len * sz := by
    have := (List.getElem?_eq_some_iff.1 hq).1; rw [flat_len hlen] at this
    simpa using this
   have hi1 : q / sz < len := Nat.div_lt_of_lt_mul (by rw [Nat.mul_comm]; exact hql); have hj1 : q % sz < sz := Nat.mod_lt _ hpos; have hq1 : q / sz * sz + q % sz = q := by rw [Nat.mul_comm]; exact Nat.div_add_mod q sz
   have h1 := flat_at hlen ((List.range len).map X) (q / sz) (q % sz) (by simpa using hi1) hj1; rw [hq1, hq, hg _ hi1] at h1; have h2 := (hX _ hi1).2 _ hj1; rw [hq1, ← h1] at h2; exact cel_of_cell h2
  ·intro b hb; obtain ⟨i, hi', rfl⟩ := List.mem_map.1 hb; exact (hX i (by simpa using hi')).1
theorem el_int {k : IntKind} {e : TypeId} (he : P.underlying e = some (.int k)) (n : Nat) (cs : List Value) (x : DataW H × List MemPlace) (h : DataW.trod enc P w base spare held n e cs = some x) : ∃ a : Int, cs = [.int k a] ∧ inK k a := by
 obtain ⟨m, rfl, _, hw⟩ := DataW.trod_int he h; refine ⟨m, rfl, ?_⟩
 cases k <;> simp [Lit.wf, IntKind.min, IntKind.max, IntKind.signed, IntKind.bits] at hw <;> simp only [inK] <;> omega
theorem flat_one {k : IntKind} (xs : List Int) : xs.flatMap (fun a => [Value.int k a]) = xs.map (.int k) := by
 induction xs with
 | nil => rfl
 | cons x xs ih => rw [List.flatMap_cons, ih]; rfl
/-- The reach of a slice. -/
theorem reach {t e : TypeId} {ts : List TypeId} {ds : List (DataW H)} (hs : (DataW.weightsEach P ts ds).all (· ≤ reachBytes) = true) (hu : P.underlying t = some (.slice e)) {j len bytes : Nat} {d : DataW H} (ht : ts[j]? = some t) (hd : ds[j]? = some d) (hb : P.bytesOf e = bytes) (h : len = 0 ∨ ∃ el sp, d = .slice el sp ∧ el.length = len) : len * bytes ≤ 140737488351232 := by
 rcases h with rfl | ⟨el, sp, rfl, rfl⟩
 ·simp
 ·have := sized_slice hs ht hd hu; rw [hb, Nat.add_mul] at this; simp only [reachBytes] at this; omega
end
end Go.Proofs.Ytacmbiohjiogiaa.K
