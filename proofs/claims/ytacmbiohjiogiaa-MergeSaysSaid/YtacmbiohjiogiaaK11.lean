/- From the memory at a call to nested data: slices in structs in slices. No condition. -/
import Derived.Test.YtacmbiohjiogiaaRows
import Derived.Test.YtacmbiohjiogiaaK10
namespace Go.Proofs.Ytacmbiohjiogiaa.K
open Go.ChangeShapes Go.WideShapes Go.ChangeAt Go.RowKit Go.Deep

/-- What is asked of a datum that is read, and goes down to its parts: slices within reach; where 'b' is not 0, of at most 'b' elements. -/
structure Cnd {H : Type} (P : Program) (b : Nat) (Cn : TypeId → DataW H → Prop) : Prop where
 slice : ∀ t e el sp, P.underlying t = some (.slice e) → Cn t (.slice el sp) → el.length * P.bytesOf e ≤ reachBytes ∧ (0 < b → el.length ≤ b) ∧ ∀ d ∈ el, Cn e d
 struct : ∀ t fs parts, P.underlying t = some (.struct fs) → Cn t (.agg parts) → ∀ (j : Nat) (f : Field) (d : DataW H), fs[j]? = some f → parts[j]? = some d → Cn f.type d
section
variable {H : Type}
theorem wAll {P : Program} {e : TypeId} {d : DataW H} : ∀ {l : List (DataW H)}, d ∈ l → ∀ n ∈ d.weights P e, n ∈ DataW.weightsAll P e l
 | [], h, _, _ => by cases h
 | x :: r, h, n, hn => by
  simp only [DataW.weightsAll, List.mem_append]; rcases List.mem_cons.1 h with rfl | h
  ·exact .inl hn
  ·exact .inr (wAll h n hn)
theorem wEach {P : Program} : ∀ {ts : List TypeId} {ds : List (DataW H)} {j : Nat} {t : TypeId} {d : DataW H}, ts[j]? = some t → ds[j]? = some d → ∀ n ∈ d.weights P t, n ∈ DataW.weightsEach P ts ds
 | [], _, j, _, _, ht, _, _, _ => by simp at ht
 | _ :: _, [], j, _, _, _, hd, _, _ => by simp at hd
 | t :: ts, d :: ds, 0, _, _, ht, hd, n, hn => by
  simp only [List.getElem?_cons_zero, Option.some.injEq] at ht hd; subst ht hd; simp only [DataW.weightsEach, List.mem_append]; exact .inl hn
 | t :: ts, d :: ds, j + 1, _, _, ht, hd, n, hn => by
  simp only [List.getElem?_cons_succ] at ht hd; simp only [DataW.weightsEach, List.mem_append]; exact .inr (wEach ht hd n hn)
def cnW (P : Program) (t : TypeId) (d : DataW H) : Prop := ∀ n ∈ d.weights P t, n ≤ reachBytes
theorem cnd_w (P : Program) : Cnd P 0 (cnW (H := H) P) := by
 refine ⟨fun t e el sp ht h => ⟨?_, fun h0 => absurd h0 (Nat.lt_irrefl 0), fun d hd n hn => h n ?_⟩, fun t fs parts ht h j f d hf hd n hn => h n ?_⟩
 ·have := h ((el.length + sp.length) * P.bytesOf e) (by simp [DataW.weights, ht]); rw [Nat.add_mul] at this; omega
 ·simp only [DataW.weights, ht, List.mem_cons, List.mem_append]; exact .inr (.inl (wAll hd n hn))
 ·simp only [DataW.weights, ht]; exact wEach (j := j) (by simp [hf]) hd n hn
theorem cnw_of {P : Program} {ts : List TypeId} {ds : List (DataW H)} (hs : (DataW.weightsEach P ts ds).all (· ≤ reachBytes) = true) {j : Nat} {t : TypeId} {d : DataW H} (ht : ts[j]? = some t) (hd : ds[j]? = some d) : cnW P t d := fun n hn => by
 have := List.all_eq_true.1 hs n (wEach ht hd n hn)
 simpa using this
end
/-- What the cells of a type read as. -/
def Opens {H : Type} (enc : TypeId × Value → H) (P : Program) (w : World) (base : Nat) (spare : Nat → Bool) (held : Bool) (Cn : TypeId → DataW H → Prop) {α : Type} (t : TypeId) (en : α → List Value) (R : α → Prop) : Prop :=
 ∀ n cs x, DataW.trod enc P w base spare held n t cs = some x → Cn t x.1 → ∃ a, cs = en a ∧ R a
/-- A slice and its elements. -/
structure SR (α : Type) where
 A : Option Addr
 n : Nat
 c : Nat
 xs : List α
instance {α : Type} : Inhabited (SR α) := ⟨⟨none, 0, 0, []⟩⟩
def encS {α : Type} (q : SR α) : List Value := [.slice q.A q.n q.c]
/-- A slice lies in memory as it says. -/
structure SOK {α : Type} (V : Mem) (by_ b : Nat) (en : α → List Value) (R : α → Prop) (q : SR α) : Prop where
 len : q.xs.length = q.n
 cap : q.n ≤ q.c
 max : q.c ≤ maxLen
 reach : q.n * by_ ≤ 140737488351232
 few : 0 < b → q.n ≤ b
 cels : Cels V [] q.A (q.xs.flatMap en)
 all : ∀ a ∈ q.xs, R a
section
variable {H : Type} {enc : TypeId × Value → H} {P : Program} {w : World} {base : Nat} {spare : Nat → Bool} {held : Bool} {Cn : TypeId → DataW H → Prop}
theorem opens_int {k : IntKind} {e : TypeId} (he : P.underlying e = some (.int k)) : Opens enc P w base spare held Cn e (fun a => [.int k a]) (inK k) := fun n cs x h _ => el_int he n cs x h
theorem opens_string {e : TypeId} (he : P.underlying e = some .string) : Opens enc P w base spare held Cn e (fun a => [.string a]) (fun s => s.size ≤ maxLen) := fun n cs x h _ => by
 obtain ⟨s, rfl, _, hm⟩ := DataW.trod_string he h; exact ⟨s, rfl, hm⟩
theorem opens_slice {b : Nat} (hC : Cnd P b Cn) {α : Type} [Inhabited α] {en : α → List Value} {R : α → Prop} {sz by_ : Nat} (hlen : ∀ x, (en x).length = sz) (hpos : 0 < sz) {t e : TypeId} (ht : P.underlying t = some (.slice e)) (hsz : P.cellsOf e = sz) (hby : P.bytesOf e = by_)
  (he : Opens enc P w base spare held Cn e en R) : Opens enc P w base spare held Cn t encS (SOK (memOf w) by_ b en R) := by
 intro fuel cs x h hcn; rcases open_slice ht h with ⟨rfl, rfl⟩ | ⟨a, len, cap, m, n, D, Pl, rfl, _, hl, hm, hme, rfl, hi⟩
 ·exact ⟨⟨none, 0, 0, []⟩, rfl, rfl, Nat.le_refl _, Nat.zero_le _, by simp, fun _ => Nat.zero_le _, Cels.nil, by simp⟩
 ·have hlm : len ≤ m := by rw [hme]; split <;> omega
  obtain ⟨hr, hf, hd⟩ := hC.slice t e _ _ ht hcn; have hex : ∀ i, i < len → ∃ b : α, R b ∧ ∀ j, j < sz → w.cell? (a.add (i * sz + j)) = (en b)[j]? := by
   intro i hil; obtain ⟨cs', h1, h2⟩ := hi i (by omega); obtain ⟨b, rfl, hb⟩ := he _ _ _ h2 (hd _ (List.mem_map_of_mem (f := D) (List.mem_range.2 hil))); obtain ⟨_, h4, h5⟩ := World.cells?_some h1; refine ⟨b, hb, fun j hj => ?_⟩; have := h5 j (by rw [hsz]; exact hj); rw [hsz, Go.Deep.add_add] at this; exact this
  obtain ⟨X, hX⟩ := choose_lt hex; have hg : ∀ i, i < len → ((List.range len).map X).getD i default = X i := fun i hi => by simp [hi]
  refine ⟨⟨some a, len, cap, (List.range len).map X⟩, rfl, by simp, hl, hm, ?_, fun h0 => by simpa using hf h0, ?_, ?_⟩
  ·have := hr; rw [hby] at this
   simpa [reachBytes] using this
  ·intro q c hq; have hql : q < len * sz := by
    have := (List.getElem?_eq_some_iff.1 hq).1; rw [flat_len hlen] at this
    simpa using this
   have hi1 : q / sz < len := Nat.div_lt_of_lt_mul (by rw [Nat.mul_comm]; exact hql); have hj1 : q % sz < sz := Nat.mod_lt _ hpos; have hq1 : q / sz * sz + q % sz = q := by rw [Nat.mul_comm]; exact Nat.div_add_mod q sz
   have h1 := flat_at hlen ((List.range len).map X) (q / sz) (q % sz) (by simpa using hi1) hj1; rw [hq1] at h1; have hq' : (((List.range len).map X).flatMap en)[q]? = some c := hq; rw [hq', hg _ hi1] at h1; have h2 := (hX _ hi1).2 _ hj1; rw [hq1, ← h1] at h2; exact cel_of_cell h2
  ·intro b hb; obtain ⟨i, hi', rfl⟩ := List.mem_map.1 hb; exact (hX i (by simpa using hi')).1
theorem trod_struct_at {t : TypeId} {fs : Array Field} {fuel : Nat} {cs : List Value} {x : DataW H × List MemPlace} {b : Nat} (hC : Cnd P b Cn) (ht : P.underlying t = some (.struct fs)) (h : DataW.trod enc P w base spare held fuel t cs = some x) (hcn : Cn t x.1) :
  cs.length = P.cellsOf t ∧ ∀ (i : Nat) (f : Field), fs[i]? = some f → ∃ n y, DataW.trod enc P w base spare held n f.type ((cs.drop f.offset).take (P.cellsOf f.type)) = some y ∧ Cn f.type y.1 := by
 obtain ⟨xs, n, _, rfl, hl, hlen, hf⟩ := DataW.trod_struct ht h; refine ⟨hl, fun i f hi => ?_⟩; have h1 := hf i f hi; have hlt : i < xs.length := by rw [hlen]; exact (Array.getElem?_eq_some_iff.1 hi).1
 rw [List.getElem?_eq_getElem hlt] at h1; exact ⟨n, xs[i], h1, hC.struct t fs _ ht hcn i f xs[i].1 hi (by simp [hlt])⟩
/-- One field of a struct. -/
theorem opens_field {α : Type} {en : α → List Value} {R : α → Prop} {e : TypeId} (he : Opens enc P w base spare held Cn e en R) {cs cs' : List Value} {n : Nat} {y : DataW H × List MemPlace} {off sz : Nat} (hsz : P.cellsOf e = sz) (h : DataW.trod enc P w base spare held n e ((cs.drop off).take (P.cellsOf e)) = some y) (hcn : Cn e y.1) (hcs : (cs.drop off).take sz = cs') : ∃ a, cs' = en a ∧ R a := by
 rw [hsz, hcs] at h; exact he _ _ _ h hcn
end
end Go.Proofs.Ytacmbiohjiogiaa.K
