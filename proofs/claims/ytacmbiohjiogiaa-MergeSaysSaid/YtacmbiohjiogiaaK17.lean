/- Records in slices of the call's own; memory of a pool. No condition. -/
import Derived.Test.YtacmbiohjiogiaaK16
namespace Go.Proofs.Ytacmbiohjiogiaa.K
open Go.RowKit
/-- What one memory holds, another one holds. -/
def MSub (V V' : Mem) : Prop := ∀ b o, V b o → V' b o
theorem MSub.ext {V : Mem} {L : List Grp} : MSub V (ext V L) := fun _ _ h => .inl h
theorem MSub.refl {V : Mem} : MSub V V := fun _ _ h => h
theorem MSub.trans {V V' V'' : Mem} (h : MSub V V') (h' : MSub V' V'') : MSub V V'' := fun b o hb => h' b o (h b o hb)
theorem Cels.ms {V V' : Mem} {A : Option Addr} {cs : List Value} (h : Cels V [] A cs) (hm : MSub V V') : Cels V' [] A cs := h.mono fun b o hb => by
 rcases hb with hb | hb
 ·exact .inl (hm b o hb)
 ·simp at hb
/-- The memory of a group. -/
def inG (G : Grp) : Mem := fun b o => (b, o) ∈ G
theorem inG_ext {V : Mem} {L : List Grp} {G : Grp} {j : Nat} (hj : nth L j = some G) : MSub (inG G) (ext V L) := fun b o h => .inr (by
 have : ∀ (L : List Grp) (j : Nat), nth L j = some G → G ∈ L := by
  intro L
  induction L with
  | nil => intro j h; cases j <;> cases h
  | cons a l ih =>
   intro j h
   cases j with
   | zero => simp only [nth, Option.some.injEq] at h; subst h; exact List.mem_cons_self
   | succ j => exact List.mem_cons_of_mem _ (ih j h)
 exact List.mem_flatten.2 ⟨G, this L j hj, h⟩)
theorem inG_left {G H : Grp} : MSub (inG G) (inG (G ++ H)) := fun _ _ h => List.mem_append_left _ h
theorem inG_right {G H : Grp} : MSub (inG H) (inG (G ++ H)) := fun _ _ h => List.mem_append_right _ h
theorem OS.mem {A : Option Addr} {n c : Nat} {T : TypeId} {sz : Nat} {cs : List Value} {E : Grp} (h : OS A n c T sz cs E) : Cels (inG E) [] A cs := (h.cels (V := fun _ _ => False) (L := [E]) (j := 0) rfl).mono fun b o hb => by
 rcases hb with hb | hb
 ·exact hb.elim
 ·exact .inl (by simpa [inG] using hb)
theorem cels_lit {V : Mem} {L : List Grp} {b : Nat} {T : TypeId} (cs : List Value) {j : Nat} (hj : nth L j = some [(b, .cells cs.toArray T (0, 0))]) : Cels V L (some ⟨b, 0, none⟩) cs :=
 cels_own (cs := cs) (l := cs) j hj (by simp)
theorem flatMap_set {α : Type} {enc : α → List Value} {sz : Nat} (hsz : ∀ x, (enc x).length = sz) : ∀ (xs : List α) (k : Nat) (y : α), k < xs.length → lay (xs.flatMap enc) (k * sz) (enc y) = (xs.set k y).flatMap enc
 | [], k, y, h => by simp at h
 | x :: xs, 0, y, _ => by
  simp only [List.set_cons_zero, List.flatMap_cons, lay, Nat.zero_mul, List.take_zero, List.nil_append, Nat.zero_add]; rw [hsz y, List.drop_append, ← hsz x, List.drop_length, Nat.sub_self]; rfl
 | x :: xs, k + 1, y, h => by
  have ih := flatMap_set hsz xs k y (by simpa using h); simp only [List.set_cons_succ, List.flatMap_cons]; rw [← ih]; unfold lay; rw [Nat.add_mul, Nat.one_mul, ← hsz x, List.take_append, List.take_of_length_le (by omega), List.drop_append, List.drop_of_length_le (by omega)]; simp only [List.append_assoc, List.nil_append]; rw [show k * (enc x).length + (enc x).length - (enc x).length = k * (enc x).length by omega, show k * (enc x).length + (enc x).length + (enc y).length - (enc x).length = k * (enc x).length + (enc y).length by omega]
theorem os_set {α : Type} {enc : α → List Value} {sz : Nat} (hsz : ∀ x, (enc x).length = sz) {A : Option Addr} {n c : Nat} {T : TypeId} {E : Grp} {xs : List α} {k : Nat} {y : α} (h : OS A n c T sz (lay (xs.flatMap enc) (k * sz) (enc y)) E) (hk : k < xs.length) : OS A n c T sz ((xs.set k y).flatMap enc) E := by
 rwa [flatMap_set hsz xs k y hk] at h
theorem os_made_rec {α : Type} [Inhabited α] {enc : α → List Value} {sz : Nat} {z : Array Value} (hz : z.toList = enc default) (hl : (enc (default : α)).length = sz) {A : Option Addr} {n : Nat} {e : TypeId} {E : Grp} (h : OS A n n e sz (madeCells z (n * sz)).toList E) : OS A n n e sz ((List.replicate n (default : α)).flatMap enc) E := by
 have hzs : z.size = sz := by rw [← hl, ← hz]; simp
 have key : ∀ n, (madeCells z (n * sz)).toList = (List.replicate n (default : α)).flatMap enc := by
  intro n
  induction n with
  | zero => simp [madeCells]
  | succ n ih =>
   rw [List.replicate_succ', List.flatMap_append, ← ih]; unfold madeCells; rw [Nat.add_mul, Nat.one_mul]; simp only [Array.toList_map, Array.toList_range, List.range_add, List.map_append, List.map_map, List.flatMap_cons, List.flatMap_nil, List.append_nil]
   congr 1
   apply List.ext_getElem (by simp [hl])
   intro j h1 h2; simp only [List.length_map, List.length_range] at h1; simp only [List.getElem_map, List.getElem_range, Function.comp]; rw [hzs, Nat.add_comm, Nat.add_mul_mod_self_right, Nat.mod_eq_of_lt h1]; have : z.toList[j]'(by simp; omega) = (enc (default : α))[j]'(by omega) := by simp only [hz]
   rw [← this]; simp [show j < z.size by omega]
 rwa [key n] at h
theorem os_snoc {α : Type} {enc : α → List Value} {A : Option Addr} {n c : Nat} {T : TypeId} {sz : Nat} {E : Grp} {xs : List α} {y : α} {ys : List Value} (h : OS A n c T sz (xs.flatMap enc ++ ys) E) (hy : ys = enc y) : OS A n c T sz ((xs ++ [y]).flatMap enc) E := by
 rw [hy] at h
 rwa [List.flatMap_append, List.flatMap_cons, List.flatMap_nil, List.append_nil]
theorem all_set {α : Type} {p : α → Prop} {xs : List α} {k : Nat} {y : α} (h : ∀ x ∈ xs, p x) (hy : p y) : ∀ x ∈ xs.set k y, p x := fun x hx => by
 rcases List.mem_or_eq_of_mem_set hx with h1 | h1
 ·exact h x h1
 ·exact h1 ▸ hy
theorem all_snoc {α : Type} {p : α → Prop} {xs : List α} {y : α} (h : ∀ x ∈ xs, p x) (hy : p y) : ∀ x ∈ xs ++ [y], p x := fun x hx => by
 rcases List.mem_append.1 hx with h1 | h1
 ·exact h x h1
 ·exact List.mem_singleton.1 h1 ▸ hy
theorem all_rep {α : Type} {p : α → Prop} {n : Nat} {y : α} (hy : p y) : ∀ x ∈ List.replicate n y, p x := fun _ hx => (List.eq_of_mem_replicate hx) ▸ hy
/-- A list that is made element by element. -/
theorem map_take_set {α β : Type} {f : α → β} {xs ys : List α} {k : Nat} {y d : α} (hx : k < xs.length) (hy : k < ys.length) (h : (xs.take k).map f = (ys.take k).map f) (he : f y = f (ys.getD k d)) : ((xs.set k y).take (k + 1)).map f = (ys.take (k + 1)).map f := by
 have e1 : (xs.set k y).take (k + 1) = xs.take k ++ [y] := by
  rw [List.take_add_one, List.getElem?_set_self hx]
  congr 1
  apply List.ext_getElem?
  intro j; simp only [List.getElem?_take, List.getElem?_set]
  split
  ·rw [if_neg (by omega)]
  ·rfl
 have e2 : ys.take (k + 1) = ys.take k ++ [ys.getD k d] := by
  rw [List.take_add_one, List.getElem?_eq_getElem hy, List.getD_eq_getElem?_getD, List.getElem?_eq_getElem hy]; rfl
 rw [e1, e2, List.map_append, List.map_append, h]; simp [he]
end Go.Proofs.Ytacmbiohjiogiaa.K
