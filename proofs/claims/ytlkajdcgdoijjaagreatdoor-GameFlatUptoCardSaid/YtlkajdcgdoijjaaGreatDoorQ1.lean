/- Parts of the walk, in build order: rules, contracts, plain laws. No condition beyond what each statement names. -/
import Derived.Tactics
import Derived.Deep.Quiet
import Derived.StillTail
import Derived.Laws.Rows
import Derived.Laws.Sem
import Derived.KernelRfl
import Derived.IntWalk
import Derived.Laws.StructEq
import Derived.Laws.Cells
import Derived.Laws.Append
import Derived.Laws.AppendOwn
import Derived.Laws.MakeOwn
import Derived.WalkSpells
import Derived.Laws.CopyRow
import Derived.WalkKit
import Derived.ProofKit
import Derived.OpenShut
import Derived.ShutString
import Derived.ChangeOld
import Derived.Below
import Derived.SizedLaws
import Derived.Deep.Slices
import Derived.Deep.Strs
import Derived.Lib.SmallJoins
import Derived.Laws.Cover3
import Derived.Laws.Small
import Derived.Laws.ResultCell
import Derived.Test.YtlkajdcgdoijjaaGreatDoorRows
import Derived.Laws.Pointers
import Derived.LoopN
import Derived.Laws.IdiomStrings
import Derived.Test.YtlkajdcgdoijjaaGreatDoorProg
section
namespace Go.Proofs.YtlkajdcgdoijjaaGreatDoor.K

/-- Slots. -/
abbrev Frm := Nat → Value
/-- A block of cells. -/
abbrev cB (l : List Value) (T : TypeId) (b : Nat) : List (Nat × Obj) := [(b, .cells l.toArray T (0, 0))]
def upd (f : Frm) (d : Nat) (v : Value) : Frm := fun i => bif Nat.beq i d then v else f i
/-- Memory that is only read: which blocks hold what. -/
abbrev Mem := Nat → Obj → Prop
abbrev Ent := Nat × Obj
abbrev Grp := List Ent
def ext (V : Mem) (L : List Grp) : Mem := fun b o => V b o ∨ (b, o) ∈ L.flatten

structure SH (w0 : World) (V : Mem) (w : World) (L : List Grp) : Prop where
 os : w.os = w0.os
 tape : w.tape = w0.tape
 output : w.output = w0.output
 size : w0.heap.size ≤ w.heap.size
 imm : ∀ k o, V k o → w.heap[k]? = some o
 own : ∀ e ∈ L.flatten, w.heap[e.1]? = some e.2
 nodup : (L.flatten.map (·.1)).Nodup
 sep : ∀ e ∈ L.flatten, ∀ o, ¬ V e.1 o

/-- The number of an activation's slots, and what it has deferred. -/
structure Nm where
 n : Nat
 ds : List Deferred
instance : Coe Nm Nat := ⟨Nm.n⟩
structure Rep (N : Nm) (f : Frm) (a : Act) : Prop where
 size : a.tmps.size = N.n
 get : ∀ i, a.tmps.getD i undef = f i
 defers : a.defers = N.ds

def evF (f : Frm) : Operand → Value
 | .tmp t => f t
 | .const v => v
 | .global g => .pointer (some ⟨g, 0, none⟩)
 | .func g => .func (.func g) #[] #[]

theorem Rep.eval {N : Nm} {f : Frm} {a : Act} (h : Rep N f a) : a.eval = evF f := by
 funext x
 cases x with
 | tmp t => exact h.get t
 | const v => rfl
 | global g => rfl
 | func g => rfl

theorem Rep.put {N : Nm} {f : Frm} {a : Act} (h : Rep N f a) {d : Nat} (hd : Nat.blt d N = true) (v : Value) : Rep N (upd f d v) (a.put (some d) v) := by
 have hd' : d < N := by simpa [Nat.blt_eq] using hd
 refine ⟨by simp [Act.put, h.size], fun i => ?_, h.defers⟩; have hg := h.get i; have hs := h.size; simp only [Act.put, upd]
 by_cases e : i = d
 ·subst e; have : Nat.beq i i = true := Nat.beq_refl i; rw [this]; simp [Array.getD_eq_getD_getElem?, hs, hd']
 ·have : Nat.beq i d = false := by
   cases hb : Nat.beq i d
   ·rfl
   ·exact absurd (Nat.eq_of_beq_eq_true hb) e
  rw [this]; simp only [cond_false]; rw [← hg]; simp only [Array.getD_eq_getD_getElem?, Array.getElem?_setIfInBounds]; rw [if_neg (fun e' => e e'.symm)]

theorem SH.lt {w0 w : World} {V : Mem} {L : List Grp} (h : SH w0 V w L) {b : Nat} {o : Obj} (hb : ext V L b o) : w.heap[b]? = some o := by
 rcases hb with hb | hb
 ·exact h.imm b o hb
 ·exact h.own (b, o) hb

/-- Fewer groups, or the same in another order. -/
theorem SH.sublist {w0 w : World} {V : Mem} {L L' : List Grp} (h : SH w0 V w L) (hs : L'.flatten.Sublist L.flatten) : SH w0 V w L' :=
 ⟨h.os, h.tape, h.output, h.size, h.imm, fun e he => h.own e (hs.subset he), (hs.map _).nodup h.nodup, fun e he => h.sep e (hs.subset he)⟩
theorem SH.front {w0 w : World} {V : Mem} {L L' : List Grp} (h : SH w0 V w L) (hs : ∃ T, L' ++ T = L) : SH w0 V w L' := by
 obtain ⟨T, rfl⟩ := hs; exact h.sublist (by rw [List.flatten_append]; exact List.sublist_append_left _ _)

/-- What holds of the groups 'L' holds of 'L''. -/
def Sub (L' L : List Grp) : Prop := ∀ w0 V w, SH w0 V w L → SH w0 V w L'
theorem sub_front {L L' : List Grp} (hs : ∃ T, L' ++ T = L) : Sub L' L := fun _ _ _ h => h.front hs

/-! ### judgements -/
def lift (N : Nm) (w0 : World) (V : Mem) (Q : Exit → Frm → List Grp → Prop) : Exit → Act → World → Prop :=
 fun e a w => ∃ f L, Rep N f a ∧ SH w0 V w L ∧ Q e f L
def wpS (P : Program) (N : Nm) (w0 : World) (V : Mem) (c : Code) (Q : Exit → Frm → List Grp → Prop) (f : Frm) (L : List Grp) : Prop :=
 ∀ a w, Rep N f a → SH w0 V w L → c.wp P (lift N w0 V Q) a w
def opsS (P : Program) (N : Nm) (w0 : World) (V : Mem) (ops : Array Oper) (Q : Exit → Frm → List Grp → Prop) (rest : List Oper) (f : Frm) (L : List Grp) : Prop :=
 ∀ a w, Rep N f a → SH w0 V w L → wpList P ops (lift N w0 V Q) rest a w
def CallS (P : Program) (fid : FuncId) (args : Array Value) (V : Mem) (L : List Grp) (R : Value → List Grp → Prop) : Prop :=
 ∀ w0 w, SH w0 V w L → Calls P fid args w fun e w' => ∃ v L', e = .returned v ∧ SH w0 V w' L' ∧ R v L'

def thenS (next : Frm → List Grp → Prop) (Q : Exit → Frm → List Grp → Prop) : Exit → Frm → List Grp → Prop
 | .normal, f, L => next f L
 | e, f, L => Q e f L
def blockS (id : Nat) (Q : Exit → Frm → List Grp → Prop) : Exit → Frm → List Grp → Prop
 | .exit id', f, L => if id' = id then Q .normal f L else Q (.exit id') f L
 | e, f, L => Q e f L

section
variable {P : Program} {N : Nm} {w0 : World} {V : Mem} {Q : Exit → Frm → List Grp → Prop} {f : Frm} {L : List Grp}

theorem wpS_mono {c : Code} {Q' : Exit → Frm → List Grp → Prop} (h : wpS P N w0 V c Q f L) (hq : ∀ e f L, Q e f L → Q' e f L) : wpS P N w0 V c Q' f L :=
 fun a w ha hw => wp_mono (h a w ha hw) fun _ _ _ ⟨f', L', h1, h2, h3⟩ => ⟨f', L', h1, h2, hq _ _ _ h3⟩

theorem s_skip (h : Q .normal f L) : wpS P N w0 V .skip Q f L := fun _ _ ha hw => wp_skip ⟨f, L, ha, hw, h⟩
theorem s_exit {id : Nat} (h : Q (.exit id) f L) : wpS P N w0 V (.exit id) Q f L := fun _ _ ha hw => wp_exit ⟨f, L, ha, hw, h⟩
theorem s_ret (h : Q .ret f L) : wpS P N w0 V .ret Q f L := fun _ _ ha hw => wp_ret ⟨f, L, ha, hw, h⟩

theorem s_seq {x y : Code} (h : wpS P N w0 V x (thenS (wpS P N w0 V y Q) Q) f L) : wpS P N w0 V (.seq x y) Q f L := by
 intro a w ha hw; refine wp_seq (wp_mono (h a w ha hw) ?_); rintro e a' w' ⟨f', L', h1, h2, h3⟩
 cases e with
 | normal => exact h3 a' w' h1 h2
 | exit id => exact ⟨f', L', h1, h2, h3⟩
 | goto l => exact ⟨f', L', h1, h2, h3⟩
 | ret => exact ⟨f', L', h1, h2, h3⟩
 | panic ch => exact ⟨f', L', h1, h2, h3⟩
 | outgrown => exact ⟨f', L', h1, h2, h3⟩

theorem s_if {c : Operand} {x y : Code} {p : Prop} [Decidable p] (hc : evF f c = .bool (decide p)) (ht : p → wpS P N w0 V x Q f L) (hf : ¬ p → wpS P N w0 V y Q f L) : wpS P N w0 V (.cond c x y) Q f L := by
 intro a w ha hw; have hc' : a.eval c = .bool (decide p) := by rw [ha.eval]; exact hc
 by_cases hp : p
 ·exact wp_cond (t := true) (by rw [hc']; simp [hp]) (ht hp a w ha hw)
 ·exact wp_cond (t := false) (by rw [hc']; simp [hp]) (hf hp a w ha hw)
theorem s_ifb {c : Operand} {x y : Code} {b : Bool} (hc : evF f c = .bool b) (ht : b = true → wpS P N w0 V x Q f L) (hf : b = false → wpS P N w0 V y Q f L) : wpS P N w0 V (.cond c x y) Q f L := by
 intro a w ha hw; have hc' : a.eval c = .bool b := by rw [ha.eval]; exact hc
 cases b with
 | true => exact wp_cond (t := true) hc' (ht rfl a w ha hw)
 | false => exact wp_cond (t := false) hc' (hf rfl a w ha hw)
theorem s_then {c : Operand} {x y : Code} (hc : evF f c = .bool true) (h : wpS P N w0 V x Q f L) : wpS P N w0 V (.cond c x y) Q f L :=
 s_ifb hc (fun _ => h) (fun e => by cases e)
theorem s_else {c : Operand} {x y : Code} (hc : evF f c = .bool false) (h : wpS P N w0 V y Q f L) : wpS P N w0 V (.cond c x y) Q f L :=
 s_ifb hc (fun e => by cases e) (fun _ => h)

theorem s_block {id : Nat} {c : Code} (h : wpS P N w0 V c (blockS id Q) f L) : wpS P N w0 V (.block id c) Q f L := by
 intro a w ha hw; refine wp_block (wp_mono (h a w ha hw) ?_); rintro e a' w' ⟨f', L', h1, h2, h3⟩
 cases e with
 | exit id' =>
  simp only [Exit.inBlock]; simp only [blockS] at h3
  by_cases hid : id' = id
  ·rw [if_pos hid] at h3 ⊢; exact ⟨f', L', h1, h2, h3⟩
  ·rw [if_neg hid] at h3 ⊢; exact ⟨f', L', h1, h2, h3⟩
 | normal => exact ⟨f', L', h1, h2, h3⟩
 | goto l => exact ⟨f', L', h1, h2, h3⟩
 | ret => exact ⟨f', L', h1, h2, h3⟩
 | panic ch => exact ⟨f', L', h1, h2, h3⟩
 | outgrown => exact ⟨f', L', h1, h2, h3⟩

/-- Slots written over a frame. -/
def pat (f : Frm) : List (Nat × Value) → Frm
 | [] => f
 | (d, v) :: l => upd (pat f l) d v
def Has (f : Frm) : List (Nat × Value) → Prop
 | [] => True
 | (d, v) :: l => f d = v ∧ Has f l
theorem Has.eq {f : Frm} : ∀ {l : List (Nat × Value)}, Has f l → f = pat f l
 | [], _ => rfl
 | (d, v) :: l, ⟨h1, h2⟩ => by
  have ih := h2.eq
  funext i
  simp only [pat, upd]
  cases hb : Nat.beq i d
  ·simp only [cond_false]; exact congrFun ih i
  ·have := Nat.eq_of_beq_eq_true hb; subst this; simp [h1]

/-- A loop: 'S g' the live slots, 'G g' the groups, 'I g' what is known, at the head of the round of state 'g'. -/
theorem s_loop {c : Code} {γ : Type} (S : γ → List (Nat × Value)) (G : γ → List Grp) (I : γ → Prop) (m : γ → Nat) (g0 : γ)
  (h0 : I g0) (hS : Has f (S g0)) (hG : Sub (G g0) L)
  (round : ∀ g f, I g → wpS P N w0 V c (thenS (fun f' L' => ∃ g', m g' < m g ∧ I g' ∧ Has f' (S g') ∧ Sub (G g') L') Q) (pat f (S g)) (G g)) : wpS P N w0 V (.loop c) Q f L := by
 intro a w ha hw; refine wp_loop_idx m (fun g a w => ∃ f, Rep N f a ∧ SH w0 V w (G g) ∧ I g ∧ Has f (S g)) g0 a w ⟨f, ha, hG _ _ _ hw, h0, hS⟩ ?_; rintro g a w ⟨f, ha, hw, hI, hs⟩; have hr := round g f hI; rw [← hs.eq] at hr; refine wp_mono (hr a w ha hw) ?_; rintro e a' w' ⟨f', L', h1, h2, h3⟩
 cases e with
 | normal => obtain ⟨g', hm, hI', hs', hG'⟩ := h3; exact ⟨g', hm, f', h1, hG' _ _ _ h2, hI', hs'⟩
 | exit id => exact ⟨f', L', h1, h2, h3⟩
 | goto l => exact ⟨f', L', h1, h2, h3⟩
 | ret => exact ⟨f', L', h1, h2, h3⟩
 | panic ch => exact ⟨f', L', h1, h2, h3⟩
 | outgrown => exact ⟨f', L', h1, h2, h3⟩
where
 wp_loop_idx {P : Program} {c : Code} {Q : Exit → Act → World → Prop} {γ : Type} (m : γ → Nat) (I : γ → Act → World → Prop) (g : γ) (a : Act) (w : World) (h : I g a w)
   (round : ∀ g a w, I g a w → c.wp P (Exit.then (fun a' w' => ∃ g', m g' < m g ∧ I g' a' w') Q) a w) : (Code.loop c).wp P Q a w := by
  intro b k cs; have key : ∀ n g a w, m g = n → I g a w →
    ∃ e a' w', Q e a' w' ∧ Arrives P (lone (b.at a (.code c :: .inLoop c :: k)) cs w) b k cs e a' w' := by
   intro n
   induction n using Nat.strongRecOn with
   | _ n ih =>
    intro g a w hn hI; obtain ⟨e, a₁, w₁, hq, harr⟩ := round g a w hI b (.inLoop c :: k) cs
    cases e with
    | normal =>
     obtain ⟨g', hlt, hI₁⟩ := hq; obtain ⟨e₂, a₂, w₂, hq₂, harr₂⟩ := ih (m g') (hn ▸ hlt) g' a₁ w₁ rfl hI₁; exact ⟨e₂, a₂, w₂, hq₂, .of_steps (Steps.trans harr (.one step_inLoop)) harr₂⟩
    | exit id => exact ⟨_, a₁, w₁, hq, .pass (x := .inLoop c) rfl (fun _ _ => .inl (by simp)) harr⟩
    | goto l => exact ⟨_, a₁, w₁, hq, .pass (x := .inLoop c) rfl (fun _ _ => .inl (by simp)) harr⟩
    | ret => exact ⟨_, a₁, w₁, hq, .pass (x := .inLoop c) rfl (fun _ _ => .inl (by simp)) harr⟩
    | panic ch => exact ⟨_, a₁, w₁, hq, .pass (x := .inLoop c) rfl (fun _ _ => .inl (by simp)) harr⟩
    | outgrown => exact ⟨_, a₁, w₁, hq, .pass (x := .inLoop c) rfl (fun _ _ => .inl (by simp)) harr⟩
  obtain ⟨e, a', w', hq, harr⟩ := key _ g a w rfl h; exact ⟨e, a', w', hq, .of_steps (.one step_loop) harr⟩

/-- Ways meet again: 'S g' the slots, 'G g' the groups, 'I g' what is known. -/
theorem s_join {x y : Code} {γ : Type} (S : γ → List (Nat × Value)) (G : γ → List Grp) (I : γ → Prop)
  (h : wpS P N w0 V x (thenS (fun f' L' => ∃ g, I g ∧ Has f' (S g) ∧ Sub (G g) L') Q) f L) (hy : ∀ g f, I g → wpS P N w0 V y Q (pat f (S g)) (G g)) : wpS P N w0 V (.seq x y) Q f L := by
 refine s_seq (wpS_mono h ?_); intro e f' L' h3
 cases e with
 | normal =>
  obtain ⟨g, hI, hs, hT⟩ := h3; intro a w ha hw; have := hy g f' hI; rw [← hs.eq] at this; exact this a w ha (hT _ _ _ hw)
 | exit id => exact h3
 | goto l => exact h3
 | ret => exact h3
 | panic ch => exact h3
 | outgrown => exact h3

/-! ### regions -/
theorem s_region {id : Nat} {l : List Oper} (h : opsS P N w0 V l.toArray Q l f L) : wpS P N w0 V (.region id l.toArray false) Q f L :=
 fun a w ha hw => wp_region_lit (h a w ha hw)

/-- Slots that are not named later may be forgotten, and groups dropped. -/
theorem s_sub {c : Code} (L' : List Grp) (hs : ∀ w, SH w0 V w L → SH w0 V w L') (h : wpS P N w0 V c Q f L') : wpS P N w0 V c Q f L :=
 fun a w ha hw => h a w ha (hs w hw)
theorem s_forget {c : Code} (S : List (Nat × Value)) (hS : Has f S) (h : ∀ f, wpS P N w0 V c Q (pat f S) L) : wpS P N w0 V c Q f L := by
 have := h f
 rwa [← hS.eq] at this

theorem sf {c : Code} (S : List (Nat × Value)) (h : ∀ f, wpS P N w0 V c Q (pat f S) L) (hS : Has f S := by repeat (first | exact trivial | refine ⟨rfl, ?_⟩)) : wpS P N w0 V c Q f L := s_forget S hS h
theorem hz3 {f : Frm} {t0 t1 t2 : Nat} {v0 v1 v2 : Value} {l : List (Nat × Value)} (h : Has f l) (e0 : f t0 = v0 := by exact rfl) (e1 : f t1 = v1 := by exact rfl) (e2 : f t2 = v2 := by exact rfl) : Has f ((t0, v0) :: (t1, v1) :: (t2, v2) :: l) := ⟨e0, e1, e2, h⟩
theorem hz4 {f : Frm} {t0 t1 t2 t3 : Nat} {v0 v1 v2 v3 : Value} {l : List (Nat × Value)} (h : Has f l) (e0 : f t0 = v0 := by exact rfl) (e1 : f t1 = v1 := by exact rfl) (e2 : f t2 = v2 := by exact rfl) (e3 : f t3 = v3 := by exact rfl) : Has f ((t0, v0) :: (t1, v1) :: (t2, v2) :: (t3, v3) :: l) := ⟨e0, e1, e2, e3, h⟩
theorem hz5 {f : Frm} {t0 t1 t2 t3 t4 : Nat} {v0 v1 v2 v3 v4 : Value} {l : List (Nat × Value)} (h : Has f l) (e0 : f t0 = v0 := by exact rfl) (e1 : f t1 = v1 := by exact rfl) (e2 : f t2 = v2 := by exact rfl) (e3 : f t3 = v3 := by exact rfl) (e4 : f t4 = v4 := by exact rfl) : Has f ((t0, v0) :: (t1, v1) :: (t2, v2) :: (t3, v3) :: (t4, v4) :: l) := ⟨e0, e1, e2, e3, e4, h⟩
theorem hz6 {f : Frm} {t0 t1 t2 t3 t4 t5 : Nat} {v0 v1 v2 v3 v4 v5 : Value} {l : List (Nat × Value)} (h : Has f l) (e0 : f t0 = v0 := by exact rfl) (e1 : f t1 = v1 := by exact rfl) (e2 : f t2 = v2 := by exact rfl) (e3 : f t3 = v3 := by exact rfl) (e4 : f t4 = v4 := by exact rfl) (e5 : f t5 = v5 := by exact rfl) : Has f ((t0, v0) :: (t1, v1) :: (t2, v2) :: (t3, v3) :: (t4, v4) :: (t5, v5) :: l) := ⟨e0, e1, e2, e3, e4, e5, h⟩
theorem hz7 {f : Frm} {t0 t1 t2 t3 t4 t5 t6 : Nat} {v0 v1 v2 v3 v4 v5 v6 : Value} {l : List (Nat × Value)} (h : Has f l) (e0 : f t0 = v0 := by exact rfl) (e1 : f t1 = v1 := by exact rfl) (e2 : f t2 = v2 := by exact rfl) (e3 : f t3 = v3 := by exact rfl) (e4 : f t4 = v4 := by exact rfl) (e5 : f t5 = v5 := by exact rfl) (e6 : f t6 = v6 := by exact rfl) : Has f ((t0, v0) :: (t1, v1) :: (t2, v2) :: (t3, v3) :: (t4, v4) :: (t5, v5) :: (t6, v6) :: l) := ⟨e0, e1, e2, e3, e4, e5, e6, h⟩
theorem hz8 {f : Frm} {t0 t1 t2 t3 t4 t5 t6 t7 : Nat} {v0 v1 v2 v3 v4 v5 v6 v7 : Value} {l : List (Nat × Value)} (h : Has f l) (e0 : f t0 = v0 := by exact rfl) (e1 : f t1 = v1 := by exact rfl) (e2 : f t2 = v2 := by exact rfl) (e3 : f t3 = v3 := by exact rfl) (e4 : f t4 = v4 := by exact rfl) (e5 : f t5 = v5 := by exact rfl) (e6 : f t6 = v6 := by exact rfl) (e7 : f t7 = v7 := by exact rfl) : Has f ((t0, v0) :: (t1, v1) :: (t2, v2) :: (t3, v3) :: (t4, v4) :: (t5, v5) :: (t6, v6) :: (t7, v7) :: l) := ⟨e0, e1, e2, e3, e4, e5, e6, e7, h⟩
theorem hz9 {f : Frm} {t0 t1 t2 t3 t4 t5 t6 t7 t8 : Nat} {v0 v1 v2 v3 v4 v5 v6 v7 v8 : Value} {l : List (Nat × Value)} (h : Has f l) (e0 : f t0 = v0 := by exact rfl) (e1 : f t1 = v1 := by exact rfl) (e2 : f t2 = v2 := by exact rfl) (e3 : f t3 = v3 := by exact rfl) (e4 : f t4 = v4 := by exact rfl) (e5 : f t5 = v5 := by exact rfl) (e6 : f t6 = v6 := by exact rfl) (e7 : f t7 = v7 := by exact rfl) (e8 : f t8 = v8 := by exact rfl) : Has f ((t0, v0) :: (t1, v1) :: (t2, v2) :: (t3, v3) :: (t4, v4) :: (t5, v5) :: (t6, v6) :: (t7, v7) :: (t8, v8) :: l) := ⟨e0, e1, e2, e3, e4, e5, e6, e7, e8, h⟩
theorem hz10 {f : Frm} {t0 t1 t2 t3 t4 t5 t6 t7 t8 t9 : Nat} {v0 v1 v2 v3 v4 v5 v6 v7 v8 v9 : Value} {l : List (Nat × Value)} (h : Has f l) (e0 : f t0 = v0 := by exact rfl) (e1 : f t1 = v1 := by exact rfl) (e2 : f t2 = v2 := by exact rfl) (e3 : f t3 = v3 := by exact rfl) (e4 : f t4 = v4 := by exact rfl) (e5 : f t5 = v5 := by exact rfl) (e6 : f t6 = v6 := by exact rfl) (e7 : f t7 = v7 := by exact rfl) (e8 : f t8 = v8 := by exact rfl) (e9 : f t9 = v9 := by exact rfl) : Has f ((t0, v0) :: (t1, v1) :: (t2, v2) :: (t3, v3) :: (t4, v4) :: (t5, v5) :: (t6, v6) :: (t7, v7) :: (t8, v8) :: (t9, v9) :: l) := ⟨e0, e1, e2, e3, e4, e5, e6, e7, e8, e9, h⟩
theorem hz11 {f : Frm} {t0 t1 t2 t3 t4 t5 t6 t7 t8 t9 t10 : Nat} {v0 v1 v2 v3 v4 v5 v6 v7 v8 v9 v10 : Value} {l : List (Nat × Value)} (h : Has f l) (e0 : f t0 = v0 := by exact rfl) (e1 : f t1 = v1 := by exact rfl) (e2 : f t2 = v2 := by exact rfl) (e3 : f t3 = v3 := by exact rfl) (e4 : f t4 = v4 := by exact rfl) (e5 : f t5 = v5 := by exact rfl) (e6 : f t6 = v6 := by exact rfl) (e7 : f t7 = v7 := by exact rfl) (e8 : f t8 = v8 := by exact rfl) (e9 : f t9 = v9 := by exact rfl) (e10 : f t10 = v10 := by exact rfl) : Has f ((t0, v0) :: (t1, v1) :: (t2, v2) :: (t3, v3) :: (t4, v4) :: (t5, v5) :: (t6, v6) :: (t7, v7) :: (t8, v8) :: (t9, v9) :: (t10, v10) :: l) := ⟨e0, e1, e2, e3, e4, e5, e6, e7, e8, e9, e10, h⟩
theorem hz12 {f : Frm} {t0 t1 t2 t3 t4 t5 t6 t7 t8 t9 t10 t11 : Nat} {v0 v1 v2 v3 v4 v5 v6 v7 v8 v9 v10 v11 : Value} {l : List (Nat × Value)} (h : Has f l) (e0 : f t0 = v0 := by exact rfl) (e1 : f t1 = v1 := by exact rfl) (e2 : f t2 = v2 := by exact rfl) (e3 : f t3 = v3 := by exact rfl) (e4 : f t4 = v4 := by exact rfl) (e5 : f t5 = v5 := by exact rfl) (e6 : f t6 = v6 := by exact rfl) (e7 : f t7 = v7 := by exact rfl) (e8 : f t8 = v8 := by exact rfl) (e9 : f t9 = v9 := by exact rfl) (e10 : f t10 = v10 := by exact rfl) (e11 : f t11 = v11 := by exact rfl) : Has f ((t0, v0) :: (t1, v1) :: (t2, v2) :: (t3, v3) :: (t4, v4) :: (t5, v5) :: (t6, v6) :: (t7, v7) :: (t8, v8) :: (t9, v9) :: (t10, v10) :: (t11, v11) :: l) := ⟨e0, e1, e2, e3, e4, e5, e6, e7, e8, e9, e10, e11, h⟩
variable {ops : Array Oper} {rest : List Oper} {o : Oper}
theorem o_nil (h : Q .normal f L) : opsS P N w0 V ops Q [] f L := fun _ _ ha hw => wpList_nil ⟨f, L, ha, hw, h⟩

/-- An operation that yields 'v' and leaves the memory alone. -/
def Yld (P : Program) (f : Frm) (V : Mem) (L : List Grp) (o : Oper) (v : Value) : Prop :=
 ∀ w0 w, SH w0 V w L → (execOp (evF f) o).run P w = .ok (.value v) w

theorem o_val {d : Nat} {v : Value} (hg : o.guard = none) (hd : o.dst = some d) (hN : Nat.blt d N = true) (hy : Yld P f V L o v) (h : opsS P N w0 V ops Q rest (upd f d v) L) : opsS P N w0 V ops Q (o :: rest) f L := by
 intro a w ha hw; refine wpList_plain hg fun K hK => ?_; unfold Oper.wp; rw [ha.eval, hy w0 w hw]
 show K (a.put o.dst v) w
 rw [hd]; exact hK _ _ (h _ _ (ha.put hN v) hw)

/-- The value of an operation that a guard names. -/
def yieldF (ops : Array Oper) (f : Frm) (j : Nat) : Option Bool :=
 match (ops[j]?).bind (·.dst) with
 | some d => match f d with | .bool b => some b | _ => none
 | none => none
theorem ov {d : Nat} {v : Value} {op : Op} {ty : TypeId} {ps : String} {af : Array Edge} (hy : Yld P f V L ⟨some d, op, ty, ps, af, none⟩ v) (h : opsS P N w0 V ops Q rest (upd f d v) L) (hN : Nat.blt d N = true := by exact rfl) : opsS P N w0 V ops Q (⟨some d, op, ty, ps, af, none⟩ :: rest) f L := o_val rfl rfl hN hy h
theorem yieldF_eq {N : Nm} {f : Frm} {a : Act} (ha : Rep N f a) {ops : Array Oper} {j : Nat} {b : Bool} (h : yieldF ops f j = some b) : yielded ops a.tmps j = some b := by
 unfold yieldF at h; unfold yielded
 cases hd : (ops[j]?).bind (·.dst) with
 | none => rw [hd] at h; cases h
 | some d =>
  rw [hd] at h; simp only at h; have hg := ha.get d; simp only [Option.bind_some]
  cases ht : a.tmps[d]? with
  | none =>
   have : f d = undef := by rw [← hg]; simp [Array.getD_eq_getD_getElem?, ht]
   rw [this] at h; simp [undef] at h
  | some v =>
   have : f d = v := by rw [← hg]; simp [Array.getD_eq_getD_getElem?, ht]
   rw [this] at h
   cases v <;> simp_all

theorem o_guard_yes {j : Nat} {b : Bool} (hg : o.guard = some (j, b)) (hy : yieldF ops f j = some b) (h : opsS P N w0 V ops Q ({ o with guard := none } :: rest) f L) : opsS P N w0 V ops Q (o :: rest) f L := by
 intro a w ha hw; have h' := h a w ha hw; have hy' := yieldF_eq ha hy; unfold wpList at h' ⊢; rw [if_pos (by simp [Region.wanted])] at h'; rw [if_pos (by simp [Region.wanted, hg, hy'])]; exact h'
theorem o_guard_no {j : Nat} {b b' : Bool} {d : Nat} (hg : o.guard = some (j, b)) (hy : yieldF ops f j = some b') (hne : (b' == b) = false) (hd : o.dst = some d) (hN : Nat.blt d N = true) (h : opsS P N w0 V ops Q rest (upd f d undef) L) : opsS P N w0 V ops Q (o :: rest) f L := by
 intro a w ha hw; have hy' := yieldF_eq ha hy; have hne' : b' ≠ b := by simpa using hne
 unfold wpList; rw [if_neg (by simp [Region.wanted, hg, hy', hne']), hd]; exact h _ _ (ha.put hN undef) hw
theorem gn {j : Nat} {b b' : Bool} {d : Nat} (h : opsS P N w0 V ops Q rest (upd f d undef) L) (hg : o.guard = some (j, b) := by exact rfl) (hy : yieldF ops f j = some b' := by exact rfl) (hne : (b' == b) = false := by exact rfl) (hd : o.dst = some d := by exact rfl) (hN : Nat.blt d N = true := by exact rfl) : opsS P N w0 V ops Q (o :: rest) f L := o_guard_no hg hy hne hd hN h
/-- The same where value and groups hang on the world. -/
theorem o_effE {d : Nat} (R : Value → List Grp → Prop) (hg : o.guard = none) (hd : o.dst = some d) (hN : Nat.blt d N = true)
  (hy : ∀ w, SH w0 V w L → ∃ v w' L', (execOp (evF f) o).run P w = .ok (.value v) w' ∧ SH w0 V w' L' ∧ R v L') (h : ∀ v L', R v L' → opsS P N w0 V ops Q rest (upd f d v) L') : opsS P N w0 V ops Q (o :: rest) f L := by
 intro a w ha hw; refine wpList_plain hg fun K hK => ?_; unfold Oper.wp; obtain ⟨v, w', L', hr, hs, hR⟩ := hy w hw; rw [ha.eval, hr]
 show K (a.put o.dst v) w'
 rw [hd]; exact hK _ _ (h v L' hR _ _ (ha.put hN v) hs)
theorem o_skip {L' : List Grp} (hg : o.guard = none) (hd : o.dst = none)
  (hy : ∀ w, SH w0 V w L → ∃ w', (execOp (evF f) o).run P w = .ok .skip w' ∧ SH w0 V w' L') (h : opsS P N w0 V ops Q rest f L') : opsS P N w0 V ops Q (o :: rest) f L := by
 intro a w ha hw; refine wpList_plain hg fun K hK => ?_; unfold Oper.wp; obtain ⟨w', hr, hs⟩ := hy w hw; rw [ha.eval, hr]
 show K (a.put o.dst undef) w'
 rw [hd]; exact hK _ _ (h _ _ ha hs)

/-- A call: the callee's number and arguments, and its contract. -/
theorem o_call {d fid : Nat} {args : Array Value} {R : Value → List Grp → Prop} (hg : o.guard = none) (hd : o.dst = some d) (hN : Nat.blt d N = true)
  (hr : ∀ w, (execOp (evF f) o).run P w = .ok (.enter fid args) w) (hc : CallS P fid args V L R) (h : ∀ v L', R v L' → opsS P N w0 V ops Q rest (upd f d v) L') : opsS P N w0 V ops Q (o :: rest) f L := by
 intro a w ha hw; refine wpList_plain hg fun K hK => ?_; unfold Oper.wp; rw [ha.eval, hr]; refine (hc w0 w hw).mono ?_; rintro e w' ⟨v, L', rfl, hs, hR⟩
 show K (a.put o.dst v) w'
 rw [hd]; exact hK _ _ (h v L' hR _ _ (ha.put hN v) hs)
theorem o_sub (L' : List Grp) (hs : ∀ w, SH w0 V w L → SH w0 V w L') (h : opsS P N w0 V ops Q rest f L') : opsS P N w0 V ops Q rest f L :=
 fun a w ha hw => h a w ha (hs w hw)

/-! ### regions that draw their order -/
def quietS (P : Program) (N : Nm) (w0 : World) (V : Mem) (L : List Grp) (ops : Array Oper) (Q : Exit → Frm → List Grp → Prop) (rest : List Oper) (f : Frm) : Prop :=
 ∀ a, Rep N f a → wpQuiet P ops (fun w => SH w0 V w L) (fun a' => ∀ w, SH w0 V w L → lift N w0 V Q .normal a' w) rest a

theorem SH.drawn {w0 w : World} {V : Mem} {L : List Grp} (h : SH w0 V w L) (n : Nat) : SH w0 V { w with drawn := n } L :=
 ⟨h.os, h.tape, h.output, h.size, h.imm, h.own, h.nodup, h.sep⟩

theorem s_quiet {id : Nat} {l : List Oper} (hm : P.follows .mixedOrders = true) (hB : Region.lexB .any l.toArray = true) (h : quietS P N w0 V L l.toArray Q l f) : wpS P N w0 V (.region id l.toArray true) Q f L := by
 intro a w ha hw; refine wp_region_quiet (C := fun w => SH w0 V w L) hm hB (hw.drawn _) ?_
 simpa using h a ha
theorem q_nil (h : Q .normal f L) : quietS P N w0 V L ops Q [] f := fun _ ha => wpQuiet_nil fun _ hw => ⟨f, L, ha, hw, h⟩
theorem q_val {d : Nat} {v : Value} (hg : o.guard = none) (hd : o.dst = some d) (hN : Nat.blt d N = true) (hy : Yld P f V L o v) (h : quietS P N w0 V L ops Q rest (upd f d v)) : quietS P N w0 V L ops Q (o :: rest) f := by
 intro a ha
 show (if Region.wanted o (yielded ops a.tmps) then _ else _)
 rw [if_pos (by simp [Region.wanted, hg])]; refine ⟨v, fun w hw => ?_, ?_⟩
 ·unfold Oper.quietAt; rw [ha.eval, hy w0 w hw]; exact ⟨rfl, rfl⟩
 ·rw [hd]; exact h _ (ha.put hN v)
/-- A region that draws: 'n' operations that leave memory alone, then a tail in one forced order. -/
def stillS (P : Program) (N : Nm) (w0 : World) (V : Mem) (L : List Grp) (ops : Array Oper) (K : Frm → Prop) (rest : List Oper) (f : Frm) : Prop :=
 ∀ a w, Rep N f a → SH w0 V w L → wpStill P ops w (fun a' => ∃ f', Rep N f' a' ∧ K f') rest a
theorem s_tail {id : Nat} {l : List Oper} (n : Nat) (hm : P.follows .mixedOrders = true) (hB : Region.lexTailB .any l.toArray n = true)
  (h : stillS P N w0 V L l.toArray (fun f' => opsS P N w0 V l.toArray Q (l.drop n) f' L) (l.take n) f) : wpS P N w0 V (.region id l.toArray true) Q f L := by
 intro a w ha hw; refine wp_region_still_tail n hm hB ?_; refine wpStill_mono ?_ (h a _ ha (hw.drawn (w.drawn + 1))); rintro a' ⟨f', ha', hK⟩; exact hK a' _ ha' (hw.drawn _)
where
 wpStill_mono {P : Program} {ops : Array Oper} {w : World} {Q Q' : Act → Prop} (hq : ∀ a, Q a → Q' a) : ∀ {l : List Oper} {a : Act}, wpStill P ops w Q l a → wpStill P ops w Q' l a
  | [], _, h => hq _ h
  | o :: l, a, h => by
   unfold wpStill at h ⊢
   split
   ·rename_i hw
    rw [if_pos hw] at h; exact Oper.still_mono (fun a h => wpStill_mono hq h) h
   ·rename_i hw
    rw [if_neg hw] at h; exact wpStill_mono hq h
theorem t_nil {K : Frm → Prop} (h : K f) : stillS P N w0 V L ops K [] f := fun _ _ ha _ => ⟨f, ha, h⟩
theorem t_val {K : Frm → Prop} {d : Nat} {v : Value} (hg : o.guard = none) (hd : o.dst = some d) (hN : Nat.blt d N = true) (hy : Yld P f V L o v) (h : stillS P N w0 V L ops K rest (upd f d v)) : stillS P N w0 V L ops K (o :: rest) f := by
 intro a w ha hw
 show (if Region.wanted o (yielded ops a.tmps) then _ else _)
 rw [if_pos (by simp [Region.wanted, hg])]; have hr := hy w0 w hw; unfold Oper.still; rw [ha.eval, hr]; refine ⟨rfl, ?_⟩; rw [hd]; exact h _ w (ha.put hN v) hw
end

/-! ### a function's contract -/
def entry (args : Array Value) : Frm := fun i => args.getD i undef
theorem entry_rep (args : Array Value) (n : Nat) (h : args.size ≤ n) : Rep ⟨n, []⟩ (entry args) { tmps := args ++ Array.replicate (n - args.size) undef, defers := [] } := by
 refine ⟨by simp; omega, fun i => ?_, rfl⟩; simp only [entry, Array.getD_eq_getD_getElem?, Array.getElem?_append, Array.getElem?_replicate]
 by_cases h1 : i < args.size
 ·simp [h1]
 ·rw [if_neg h1]; have : args[i]? = none := Array.getElem?_eq_none (by omega); rw [this]
  split <;> rfl
/-- What the results read as. -/
def Res (P : Program) (fn : Func) (V : Mem) (f : Frm) (L : List Grp) (v : Value) : Prop :=
 ∀ N a w w0, Rep N f a → SH w0 V w L → (results fn a.tmps).run P w = .ok v w
def endS (P : Program) (fn : Func) (V : Mem) (R : Value → List Grp → Prop) : Exit → Frm → List Grp → Prop
 | .normal, f, L | .ret, f, L => ∃ v L', Res P fn V f L v ∧ R v L' ∧ Sub L' L
 | _, _, _ => False
theorem callS {P : Program} {fid : FuncId} {fn : Func} {c : Code} {args : Array Value} {V : Mem} {L : List Grp} {R : Value → List Grp → Prop}
  (hf : P.funcs[fid]? = some fn) (hb : fn.body = some c) (hn : Nat.ble args.size fn.ntmps = true) (h : ∀ w0, wpS P ⟨fn.ntmps, []⟩ w0 V c (endS P fn V R) (entry args) L) : CallS P fid args V L R := by
 intro w0 w hw; refine calls_of_wp hf hb ?_; refine wp_mono (h w0 _ w (entry_rep args fn.ntmps (Nat.le_of_ble_eq_true hn)) hw) ?_; rintro e a w' ⟨f', L', h1, h2, h3⟩
 cases e with
 | normal => obtain ⟨v, L2, hv, hR, hT⟩ := h3; exact ⟨h1.defers, v, hv _ _ _ _ h1 h2, v, L2, rfl, hT _ _ _ h2, hR⟩
 | ret => obtain ⟨v, L2, hv, hR, hT⟩ := h3; exact ⟨h1.defers, v, hv _ _ _ _ h1 h2, v, L2, rfl, hT _ _ _ h2, hR⟩
 | exit id => exact h3.elim
 | goto l => exact h3.elim
 | panic ch => exact h3.elim
 | outgrown => exact h3.elim
theorem res0 {P : Program} {fn : Func} {V : Mem} {f : Frm} {L : List Grp} (h : fn.results = #[]) : Res P fn V f L (.tuple #[]) := fun _ _ _ _ _ _ => results_none h _ _ _
theorem res1 {P : Program} {fn : Func} {V : Mem} {f : Frm} {L : List Grp} {t : Nat} {v : Value} (h : fn.results = #[.tmp t]) (hv : f t = v) : Res P fn V f L v := fun _ a _ _ ha _ => by rw [results_tmp h, ha.get, hv]
theorem res2 {P : Program} {fn : Func} {V : Mem} {f : Frm} {L : List Grp} {t u : Nat} {v v' : Value} (h : fn.results = #[.tmp t, .tmp u]) (hv : f t = v) (hv' : f u = v') : Res P fn V f L (.tuple #[v, v']) := fun _ a _ _ ha _ => by rw [results_tmp2 h, ha.get, ha.get, hv, hv']
theorem CallS.mono {P : Program} {fid : FuncId} {args : Array Value} {V : Mem} {L : List Grp} {R R' : Value → List Grp → Prop} (h : CallS P fid args V L R) (hr : ∀ v L', R v L' → R' v L') : CallS P fid args V L R' :=
 fun w0 w hw => (h w0 w hw).mono fun _ _ ⟨v, L', h1, h2, h3⟩ => ⟨v, L', h1, h2, hr v L' h3⟩
/-- What is not handed over is only read by the callee, and is there as it was behind the call. -/
theorem CallS.frame {P : Program} {fid : FuncId} {args : Array Value} {V : Mem} {Lin R : List Grp} {post : Value → List Grp → Prop} (h : CallS P fid args (ext V R) Lin post) {L : List Grp} (hL : L.flatten.Perm (Lin ++ R).flatten) :
  CallS P fid args V L (fun v L' => ∃ L1, post v L1 ∧ L' = L1 ++ R) := by
 intro w0 w hw; have hmem : ∀ e, e ∈ L.flatten ↔ e ∈ Lin.flatten ∨ e ∈ R.flatten := fun e => by rw [hL.mem_iff, List.flatten_append, List.mem_append]
 have hnd : ((Lin.flatten ++ R.flatten).map (·.1)).Nodup := by
  have := (hL.map (·.1)).nodup hw.nodup
  rwa [List.flatten_append] at this
 rw [List.map_append, List.nodup_append] at hnd; obtain ⟨hn1, hn2, hn3⟩ := hnd; refine (h w0 w ⟨hw.os, hw.tape, hw.output, hw.size, ?_, ?_, hn1, ?_⟩).mono ?_
 ·rintro k o (hk | hk)
  ·exact hw.imm k o hk
  ·exact hw.own (k, o) ((hmem _).2 (.inr hk))
 ·exact fun e he => hw.own e ((hmem _).2 (.inl he))
 ·rintro e he o (ho | ho)
  ·exact hw.sep e ((hmem _).2 (.inl he)) o ho
  ·exact hn3 e.1 (List.mem_map_of_mem he) e.1 (List.mem_map_of_mem (f := (·.1)) ho) rfl
 ·rintro e w' ⟨v, L1, rfl, hs, hp⟩; refine ⟨v, L1 ++ R, rfl, ⟨hs.os, hs.tape, hs.output, hs.size, fun k o ho => hs.imm k o (.inl ho), ?_, ?_, ?_⟩, L1, hp, rfl⟩
  ·intro e he; rw [List.flatten_append, List.mem_append] at he; rcases he with he | he
   ·exact hs.own e he
   ·exact hs.imm e.1 e.2 (.inr he)
  ·rw [List.flatten_append, List.map_append, List.nodup_append]; refine ⟨hs.nodup, hn2, ?_⟩; intro x hx y hy hxy; subst hxy; obtain ⟨e, he, rfl⟩ := List.mem_map.1 hx; obtain ⟨e', he', h'⟩ := List.mem_map.1 hy; exact hs.sep e he e'.2 (.inr (by rw [← h']; exact he'))
  ·intro e he o ho; rw [List.flatten_append, List.mem_append] at he; rcases he with he | he
   ·exact hs.sep e he o (.inl ho)
   ·exact hw.sep e ((hmem _).2 (.inr he)) o ho

end Go.Proofs.YtlkajdcgdoijjaaGreatDoor.K
end
section
namespace Go.Proofs.YtlkajdcgdoijjaaGreatDoor.K
open Go.RowKit

def nth {α : Type} : List α → Nat → Option α
 | [], _ => none
 | x :: _, 0 => some x
 | _ :: l, n + 1 => nth l n
theorem nth_eq {α : Type} : ∀ (l : List α) (n : Nat), nth l n = l[n]?
 | [], _ => rfl
 | _ :: _, 0 => rfl
 | _ :: l, n + 1 => by rw [nth, nth_eq l n]; rfl

/-- Of every kind the numbers that it holds. -/
def inK : IntKind → Int → Prop
 | .i8, n => -128 ≤ n ∧ n ≤ 127
 | .i16, n => -32768 ≤ n ∧ n ≤ 32767
 | .i32, n => -2147483648 ≤ n ∧ n ≤ 2147483647
 | .i64, n => -9223372036854775808 ≤ n ∧ n ≤ 9223372036854775807
 | .u8, n => 0 ≤ n ∧ n ≤ 255
 | .u16, n => 0 ≤ n ∧ n ≤ 65535
 | .u32, n => 0 ≤ n ∧ n ≤ 4294967295
 | .u64, n => 0 ≤ n ∧ n ≤ 18446744073709551615
theorem wrap_in {k : IntKind} {n : Int} (h : inK k n) : k.wrap n = n := by
 cases k
 ·exact IntWalk.i8_in n h
 ·exact IntWalk.i16_in n h
 ·exact IntWalk.i32_in n h
 ·exact IntWalk.i64_in n h
 ·exact IntWalk.u8_in n h
 ·exact IntWalk.u16_in n h
 ·exact IntWalk.u32_in n h
 ·exact IntWalk.u64_in n h
section
variable {P : Program} {f : Frm} {V : Mem} {L : List Grp} {d : Option Tmp} {ty : TypeId} {ps : String} {af : Array Edge} {g : Option (Nat × Bool)} {x y c : Operand} {v v' : Value}

theorem Yld.of_eq {o : Oper} (h : Yld P f V L o v) (e : v = v') : Yld P f V L o v' := e ▸ h
theorem Yld.tt {o : Oper} {p : Prop} [Decidable p] (h : Yld P f V L o (.bool (decide p))) (hp : p) : Yld P f V L o (.bool true) := h.of_eq (by rw [decide_eq_true hp])
theorem Yld.ff {o : Oper} {p : Prop} [Decidable p] (h : Yld P f V L o (.bool (decide p))) (hp : ¬ p) : Yld P f V L o (.bool false) := h.of_eq (by rw [decide_eq_false hp])
theorem Yld.int {o : Oper} {k : IntKind} {n n' : Int} (h : Yld P f V L o (.int k n)) (e : n = n') : Yld P f V L o (.int k n') := e ▸ h

theorem y_move (hx : evF f x = v) : Yld P f V L ⟨d, .move x, ty, ps, af, g⟩ v := fun _ w _ => by show Result.ok (Next.value (evF f x)) w = _; rw [hx]
theorem y_assign (hx : evF f x = v) : Yld P f V L ⟨d, .assign x, ty, ps, af, g⟩ v := fun _ w _ => by show Result.ok (Next.value (evF f x)) w = _; rw [hx]
theorem y_pick {b : Bool} (hc : evF f c = .bool b) (hx : evF f x = v) (hy : evF f y = v') : Yld P f V L ⟨d, .pick c x y, ty, ps, af, g⟩ (if b then v else v') := fun _ w _ => by
 simp only [execOp, hc, hx, hy, asBool]
 rfl
theorem y_pick_t (hc : evF f c = .bool true) (hx : evF f x = v) : Yld P f V L ⟨d, .pick c x y, ty, ps, af, g⟩ v := y_pick (v' := evF f y) hc hx rfl
theorem y_pick_f (hc : evF f c = .bool false) (hy : evF f y = v) : Yld P f V L ⟨d, .pick c x y, ty, ps, af, g⟩ v := y_pick (v := evF f x) hc rfl hy
theorem y_nilCheck {a : Addr} (hx : evF f x = .pointer (some a)) : Yld P f V L ⟨d, .nilCheck x, ty, ps, af, g⟩ (.pointer (some a)) := fun _ w _ => by
 simp only [execOp, hx]
 rfl
theorem y_extract {i : Nat} {vs : Array Value} (hx : evF f x = .tuple vs) (hv : vs[i]? = some v) : Yld P f V L ⟨d, .extract x i, ty, ps, af, g⟩ v := fun _ w _ => by
 simp only [execOp, hx, Instr.extract, hv]
 rfl
theorem y_func {fn : Fn} {xs ys : Array Operand} {a b : Array Value} (ha : xs.map (evF f) = a) (hb : ys.map (evF f) = b) : Yld P f V L ⟨d, .makeFunc fn xs ys, ty, ps, af, g⟩ (.func fn a b) := fun _ w _ => by
 simp only [execOp, Instr.makeFunc, ha, hb]
 rfl

/-! ### integers -/
section
variable {k : IntKind} {a b : Int} {xt yt : TypeId}
theorem eqGuard_int (op : BinOp) (t : TypeId) (x y : Operand) (k k' : IntKind) (a b : Int) (w : World) : (eqGuard op t x y (.int k a) (.int k' b)).run P w = .ok () w := by
 unfold eqGuard; split <;> rfl
theorem run_bin {op : BinOp} {r : Value} (hx : evF f x = .int k a) (hy : evF f y = .int k b) (hr : ∀ w, (binOp op xt (.int k a) (.int k b)).run P w = .ok r w) : Yld P f V L ⟨d, .binOp op xt x y yt, ty, ps, af, g⟩ r := fun _ w _ => by
 simp only [execOp, hx, hy, Sem.run_bind, eqGuard_int, Result.andThen_ok, hr]
 rfl
theorem y_add' (hx : evF f x = .int k a) (hy : evF f y = .int k b) : Yld P f V L ⟨d, .binOp .add xt x y yt, ty, ps, af, g⟩ (.int k (k.wrap (a + b))) := run_bin hx hy fun w => by simp [binOp, Op.intArith]
theorem y_sub' (hx : evF f x = .int k a) (hy : evF f y = .int k b) : Yld P f V L ⟨d, .binOp .sub xt x y yt, ty, ps, af, g⟩ (.int k (k.wrap (a - b))) := run_bin hx hy fun w => by simp [binOp, Op.intArith]
theorem y_mul' (hx : evF f x = .int k a) (hy : evF f y = .int k b) : Yld P f V L ⟨d, .binOp .mul xt x y yt, ty, ps, af, g⟩ (.int k (k.wrap (a * b))) := run_bin hx hy fun w => by simp [binOp, Op.intArith]
theorem y_add (hx : evF f x = .int k a) (hy : evF f y = .int k b) (h : inK k (a + b)) : Yld P f V L ⟨d, .binOp .add xt x y yt, ty, ps, af, g⟩ (.int k (a + b)) := (y_add' hx hy).int (wrap_in h)
theorem y_sub (hx : evF f x = .int k a) (hy : evF f y = .int k b) (h : inK k (a - b)) : Yld P f V L ⟨d, .binOp .sub xt x y yt, ty, ps, af, g⟩ (.int k (a - b)) := (y_sub' hx hy).int (wrap_in h)
def bAnd (k : IntKind) (a b : Int) : Int := k.wrap (BitVec.ofInt k.bits a &&& BitVec.ofInt k.bits b).toNat
def bXor (k : IntKind) (a b : Int) : Int := k.wrap (BitVec.ofInt k.bits a ^^^ BitVec.ofInt k.bits b).toNat
theorem y_and (hx : evF f x = .int k a) (hy : evF f y = .int k b) : Yld P f V L ⟨d, .binOp .and xt x y yt, ty, ps, af, g⟩ (.int k (bAnd k a b)) := run_bin hx hy fun w => by simp [binOp, Op.intBits, bAnd]
theorem y_xor (hx : evF f x = .int k a) (hy : evF f y = .int k b) : Yld P f V L ⟨d, .binOp .xor xt x y yt, ty, ps, af, g⟩ (.int k (bXor k a b)) := run_bin hx hy fun w => by simp [binOp, Op.intBits, bXor]
theorem y_lss (hx : evF f x = .int k a) (hy : evF f y = .int k b) : Yld P f V L ⟨d, .binOp .lss xt x y yt, ty, ps, af, g⟩ (.bool (decide (a < b))) := run_bin hx hy fun w => by simp [binOp, Op.intCmp]
theorem y_leq (hx : evF f x = .int k a) (hy : evF f y = .int k b) : Yld P f V L ⟨d, .binOp .leq xt x y yt, ty, ps, af, g⟩ (.bool (decide (a ≤ b))) := run_bin hx hy fun w => by simp [binOp, Op.intCmp]
theorem y_gtr (hx : evF f x = .int k a) (hy : evF f y = .int k b) : Yld P f V L ⟨d, .binOp .gtr xt x y yt, ty, ps, af, g⟩ (.bool (decide (b < a))) := run_bin hx hy fun w => by simp [binOp, Op.intCmp]
theorem y_geq (hx : evF f x = .int k a) (hy : evF f y = .int k b) : Yld P f V L ⟨d, .binOp .geq xt x y yt, ty, ps, af, g⟩ (.bool (decide (b ≤ a))) := run_bin hx hy fun w => by simp [binOp, Op.intCmp]
theorem y_eql (hx : evF f x = .int k a) (hy : evF f y = .int k b) : Yld P f V L ⟨d, .binOp .eql xt x y yt, ty, ps, af, g⟩ (.bool (decide (a = b))) := run_bin hx hy fun w => by
 simp only [binOp, Op.intCmp, ne_eq, not_true_eq_false, if_false, Sem.run_pure]; rw [show (a == b) = decide (a = b) from rfl]
theorem y_neq (hx : evF f x = .int k a) (hy : evF f y = .int k b) : Yld P f V L ⟨d, .binOp .neq xt x y yt, ty, ps, af, g⟩ (.bool (decide (a ≠ b))) := run_bin hx hy fun w => by
 simp only [binOp, Op.intCmp, ne_eq, not_true_eq_false, if_false, Sem.run_pure]
 congr 2
 by_cases h : a = b <;> simp [h]
theorem run_shift {op : BinOp} {k' : IntKind} (h0 : op = .shl ∨ op = .shr) {r : Int} (hx : evF f x = .int k a) (hy : evF f y = .int k' b) (hr : ∀ w, (Op.shift op k a k' b).run P w = .ok (.int k r) w) : Yld P f V L ⟨d, .binOp op xt x y yt, ty, ps, af, g⟩ (.int k r) := fun _ w _ => by
 have e : binOp op xt (.int k a) (.int k' b) = Op.shift op k a k' b := by rcases h0 with rfl | rfl <;> rfl
 simp only [execOp, hx, hy, Sem.run_bind, eqGuard_int, Result.andThen_ok, e, hr]
 rfl
theorem y_shl {k' : IntKind} (hx : evF f x = .int k a) (hy : evF f y = .int k' b) (h : 0 ≤ b) : Yld P f V L ⟨d, .binOp .shl xt x y yt, ty, ps, af, g⟩ (.int k (k.wrap (a * 2 ^ (min b.toNat k.bits)))) := run_shift (.inl rfl) hx hy fun w => by
 simp only [Op.shift]; rw [if_neg (by omega)]; rfl
theorem y_shr {k' : IntKind} (hx : evF f x = .int k a) (hy : evF f y = .int k' b) (h : 0 ≤ b) : Yld P f V L ⟨d, .binOp .shr xt x y yt, ty, ps, af, g⟩ (.int k (a.fdiv (2 ^ (min b.toNat k.bits)))) := run_shift (.inr rfl) hx hy fun w => by
 simp only [Op.shift]; rw [if_neg (by omega)]; rfl
theorem y_conv' {k k' : IntKind} {s t : TypeId} {D : TypeDesc} {a : Int} (hs : ∀ w, (underlying s).run P w = .ok D w) (ht : ∀ w, (underlying t).run P w = .ok (.int k') w) (hx : evF f x = .int k a) : Yld P f V L ⟨d, .convert s t x, ty, ps, af, g⟩ (.int k' (k'.wrap a)) := fun _ w _ => by
 simp only [execOp, hx, convert, Sem.run_bind, hs, ht, Result.andThen_ok]
 rfl
theorem y_conv {k k' : IntKind} {s t : TypeId} {D : TypeDesc} {a : Int} (hs : ∀ w, (underlying s).run P w = .ok D w) (ht : ∀ w, (underlying t).run P w = .ok (.int k') w) (hx : evF f x = .int k a) (h : inK k' a) : Yld P f V L ⟨d, .convert s t x, ty, ps, af, g⟩ (.int k' a) := (y_conv' hs ht hx).int (wrap_in h)
end

/-! ### bools and strings -/
theorem y_not {p : Prop} [Decidable p] {t : TypeId} (hx : evF f x = .bool (decide p)) : Yld P f V L ⟨d, .unOp .not t x, ty, ps, af, g⟩ (.bool (decide (¬ p))) := fun _ w _ => by
 simp only [execOp, hx, Op.unary]
 show Result.ok (Next.value (.bool (!decide p))) w = _
 congr 3; by_cases h : p <;> simp [h]
theorem y_notb {b : Bool} {t : TypeId} (hx : evF f x = .bool b) : Yld P f V L ⟨d, .unOp .not t x, ty, ps, af, g⟩ (.bool (!b)) := fun _ w _ => by
 simp only [execOp, hx, Op.unary]; rfl
section
variable {xt yt : TypeId} {a b : ByteArray}
theorem eqGuard_str (op : BinOp) (t : TypeId) (x y : Operand) (a b : ByteArray) (w : World) : (eqGuard op t x y (.string a) (.string b)).run P w = .ok () w := by
 unfold eqGuard; split <;> rfl
theorem bytes_beq (a b : ByteArray) : (a == b) = decide (a = b) := by
 obtain ⟨a⟩ := a; obtain ⟨b⟩ := b
 show (a == b) = _
 by_cases h : a = b <;> simp [h]
theorem y_eql_str (hx : evF f x = .string a) (hy : evF f y = .string b) : Yld P f V L ⟨d, .binOp .eql xt x y yt, ty, ps, af, g⟩ (.bool (decide (a = b))) := fun _ w _ => by
 simp only [execOp, hx, hy, Sem.run_bind, eqGuard_str, Result.andThen_ok, binOp, Op.stringOp, Sem.run_pure]; rw [← beq_toListBytes, bytes_beq]
end
def bt (s : ByteArray) (i : Nat) : Int := (s.data.toList.getD i 0).toNat
theorem bt_bd (s : ByteArray) (i : Nat) : 0 ≤ bt s i ∧ bt s i ≤ 255 := by
 unfold bt; have := (s.data.toList.getD i 0).toNat_lt; omega
theorem y_strIndex {t : TypeId} {k : IntKind} {s : ByteArray} {i : Int} (ht : ∀ w, (underlying t).run P w = .ok .string w) (hx : evF f x = .string s) (hy : evF f y = .int k i) (h : 0 ≤ i ∧ i < s.size) : Yld P f V L ⟨d, .index t x y, ty, ps, af, g⟩ (.int .u8 (bt s i.toNat)) := fun _ w _ => by
 simp only [execOp, hx, hy, Instr.index, Sem.run_bind, asIntOf, Sem.run_pure, Result.andThen_ok, ht]; have hlt : i.toNat < s.size := by omega
 have e : (if 0 ≤ i then s[i.toNat]? else none) = some (s[i.toNat]'hlt) := by rw [if_pos h.1]; simp [hlt]
 rw [e]; simp only [Sem.run_pure, Result.andThen_ok]
 congr 3
 unfold bt; have : s.data.toList.getD i.toNat 0 = s[i.toNat]'hlt := by
  rw [List.getD_eq_getElem?_getD, Array.getElem?_toList, Array.getElem?_eq_getElem (by simpa using hlt)]; rfl
 rw [this]

/-! ### lengths -/
theorem run_builtin {b : Builtin} {xs : List Operand} {ts : Array TypeId} {r : Value} {vs : List Value} (hx : xs.map (evF f) = vs)
  (hr : ∀ w, (builtin b ts ty (xs.toArray.map fun | .const _ => true | _ => false) vs.toArray).run P w = .ok (.value r) w) : Yld P f V L ⟨d, .call { callee := .builtin b, args := xs.toArray, argTypes := ts }, ty, ps, af, g⟩ r := fun _ w _ => by
 have e : xs.toArray.map (evF f) = vs.toArray := by rw [List.map_toArray, hx]
 simp only [execOp, resolve, e, Sem.run_bind, Sem.run_pure, Result.andThen_ok, invoke]; exact hr w
theorem y_len {t : TypeId} {E : TypeId} {A : Option Addr} {n c : Nat} (ht : ∀ w, (underlying t).run P w = .ok (.slice E) w) (hx : evF f x = .slice A n c) : Yld P f V L ⟨d, .call { callee := .builtin .len, args := [x].toArray, argTypes := [t].toArray }, ty, ps, af, g⟩ (.int .i64 n) :=
 run_builtin (vs := [.slice A n c]) (by simp [hx]) fun w => by simp [builtin, Builtin.len_, ht, goInt]
theorem y_cap {t : TypeId} {E : TypeId} {A : Option Addr} {n c : Nat} (ht : ∀ w, (underlying t).run P w = .ok (.slice E) w) (hx : evF f x = .slice A n c) : Yld P f V L ⟨d, .call { callee := .builtin .cap, args := [x].toArray, argTypes := [t].toArray }, ty, ps, af, g⟩ (.int .i64 c) :=
 run_builtin (vs := [.slice A n c]) (by simp [hx]) fun w => by simp [builtin, Builtin.cap_, ht, goInt]
theorem y_len_str {t : TypeId} {s : ByteArray} (ht : ∀ w, (underlying t).run P w = .ok .string w) (hx : evF f x = .string s) : Yld P f V L ⟨d, .call { callee := .builtin .len, args := [x].toArray, argTypes := [t].toArray }, ty, ps, af, g⟩ (.int .i64 s.size) :=
 run_builtin (vs := [.string s]) (by simp [hx]) fun w => by simp [builtin, Builtin.len_, ht, goInt]
theorem y_min {t u : TypeId} {k : IntKind} {a b : Int} (hx : evF f x = .int k a) (hy : evF f y = .int k b) : Yld P f V L ⟨d, .call { callee := .builtin .min, args := [x, y].toArray, argTypes := [t, u].toArray }, ty, ps, af, g⟩ (.int k (min a b)) :=
 run_builtin (vs := [.int k a, .int k b]) (by simp [hx, hy]) fun w => by
  simp only [builtin, Builtin.min_, List.foldlM, Builtin.min2, Sem.run_bind, Sem.run_pure, Result.andThen_ok]
  congr 3; split <;> omega
theorem y_max {t u : TypeId} {k : IntKind} {a b : Int} (hx : evF f x = .int k a) (hy : evF f y = .int k b) : Yld P f V L ⟨d, .call { callee := .builtin .max, args := [x, y].toArray, argTypes := [t, u].toArray }, ty, ps, af, g⟩ (.int k (max a b)) :=
 run_builtin (vs := [.int k a, .int k b]) (by simp [hx, hy]) fun w => by
  simp only [builtin, Builtin.max_, List.foldlM, Builtin.max2, Sem.run_bind, Sem.run_pure, Result.andThen_ok]
  congr 3; split <;> omega
/-! ### addresses -/
/-- The k-th cell behind an address that may be none. -/
def idx (A : Option Addr) (k : Nat) : Option Addr := A.map fun a => a.add k
theorem add_plain (b off k : Nat) : (⟨b, off, none⟩ : Addr).add k = ⟨b, off + k, none⟩ := by
 unfold Addr.add; split
 ·subst_vars; rfl
 ·rfl
theorem add_add (a : Addr) (j k : Nat) : (a.add j).add k = a.add (j + k) := by
 unfold Addr.add
 by_cases hj : j = 0
 ·subst hj; simp
 ·by_cases hk : k = 0
  ·subst hk; simp [hj]
  ·simp [hj, hk]; omega
theorem idx_some (b off k : Nat) : idx (some ⟨b, off, none⟩) k = some ⟨b, off + k, none⟩ := by simp [idx, add_plain]
theorem idx_idx (A : Option Addr) (j k : Nat) : idx (idx A j) k = idx A (j + k) := by cases A <;> simp [idx, add_add]
theorem idx_zero (A : Option Addr) : idx A 0 = A := by cases A <;> simp [idx, Addr.add]

theorem y_fieldAddr {s i F : TypeId} {fs : Array Field} {fd : Field} {A : Option Addr} {n : Nat} (hs : ∀ w, (underlying s).run P w = .ok (.struct fs) w) (hf : fs[i]? = some fd) (hz : ∀ w, (sizeOf fd.type).run P w = .ok (n + 1) w) (hF : fd.offset = F)
  (hA : A.isSome = true) (hx : evF f x = .pointer A) : Yld P f V L ⟨d, .fieldAddr s x i, ty, ps, af, g⟩ (.pointer (idx A F)) := fun _ w _ => by
 obtain ⟨a, rfl⟩ := Option.isSome_iff_exists.1 hA; subst hF; simp only [execOp, hx, Instr.fieldAt, Sem.run_bind, hs, Result.andThen_ok, hf, Instr.sureAddr, Sem.run_pure, fieldPlace, hz]; rw [if_neg (by omega)]
 rfl
theorem y_field0 {s i F : TypeId} {fs : Array Field} {fd : Field} {b off n : Nat} (hs : ∀ w, (underlying s).run P w = .ok (.struct fs) w) (hf : fs[i]? = some fd) (hz : ∀ w, (sizeOf fd.type).run P w = .ok (n + 1) w) (hF : fd.offset = F)
  (hx : evF f x = .pointer (some ⟨b, off, none⟩)) : Yld P f V L ⟨d, .fieldAddr s x i, ty, ps, af, g⟩ (.pointer (some ⟨b, off + F, none⟩)) :=
 (y_fieldAddr hs hf hz hF rfl hx).of_eq (by rw [idx_some])
theorem y_indexAddr {t E : TypeId} {k : IntKind} {A : Option Addr} {n c z : Nat} {i : Int} (ht : ∀ w, (underlying t).run P w = .ok (.slice E) w) (hz : ∀ w, (sizeOf E).run P w = .ok z w) (hA : A.isSome = true) (hx : evF f x = .slice A n c) (hy : evF f y = .int k i) (h : 0 ≤ i ∧ i < n) :
  Yld P f V L ⟨d, .indexAddr t x y, ty, ps, af, g⟩ (.pointer (idx A (i.toNat * z))) := fun _ w _ => by
 obtain ⟨a, rfl⟩ := Option.isSome_iff_exists.1 hA; simp only [execOp, hx, hy, Instr.indexAt, Sem.run_bind, asIntOf, Sem.run_pure, Result.andThen_ok, ht]; rw [if_pos h]; simp only [Sem.run_bind, hz, Result.andThen_ok, Sem.run_pure]
 rfl

/-! ### what is read -/
def Cel (V : Mem) (L : List Grp) (A : Option Addr) (v : Value) : Prop :=
 ∃ a arr T fr, A = some a ∧ a.spot = none ∧ ext V L a.block (.cells arr T fr) ∧ arr[a.off]? = some v
def Cels (V : Mem) (L : List Grp) (A : Option Addr) (cs : List Value) : Prop := ∀ i c, cs[i]? = some c → Cel V L (idx A i) c

theorem Cel.cell {w0 w : World} {a : Addr} (h : Cel V L (some a) v) (hw : SH w0 V w L) : w.cell? a = some v := by
 obtain ⟨a', arr, T, fr, e, hs, hb, hc⟩ := h
 cases e
 unfold World.cell?; rw [hw.lt hb]; simp [hs, hc]
theorem Cel.some {A : Option Addr} (h : Cel V L A v) : A.isSome = true := by obtain ⟨a, _, _, _, rfl, _⟩ := h; rfl
theorem nth_mem {G : Grp} {j : Nat} {L : List Grp} (h : nth L j = some G) : ∀ e ∈ G, e ∈ L.flatten := by
 rw [nth_eq] at h; intro e he; exact List.mem_flatten.2 ⟨G, List.mem_of_getElem? h, he⟩
theorem cel_own (j : Nat) {b off : Nat} {l : List Value} {T : TypeId} {fr : Nat × Nat} (h : nth L j = some [(b, .cells l.toArray T fr)]) (hv : nth l off = some v) : Cel V L (some ⟨b, off, none⟩) v :=
 ⟨_, l.toArray, T, fr, rfl, rfl, .inr (nth_mem h _ (by simp)), by rw [nth_eq] at hv; simpa using hv⟩
theorem y_load {t : TypeId} {A : Option Addr} (ht : ∀ w, (isAgg t).run P w = .ok false w) (hx : evF f x = .pointer A) (hc : Cel V L A v) : Yld P f V L ⟨d, .load t x, ty, ps, af, g⟩ v := fun w0 w hw => by
 obtain ⟨a, rfl⟩ := Option.isSome_iff_exists.1 hc.some; simp only [execOp, hx, Instr.loadAt, Instr.sureAddr, loadVar, Sem.run_bind, Sem.run_pure, Result.andThen_ok, ht, Bool.false_eq_true, if_false, run_load, hc.cell hw]
theorem y_loads {t n : TypeId} {A : Option Addr} {cs : List Value} (ht : ∀ w, (isAgg t).run P w = .ok true w) (hz : ∀ w, (sizeOf t).run P w = .ok n w) (hn : cs.length = n) (hA : A.isSome = true) (hx : evF f x = .pointer A) (hc : Cels V L A cs) : Yld P f V L ⟨d, .load t x, ty, ps, af, g⟩ (.agg cs.toArray) := fun w0 w hw => by
 obtain ⟨a, rfl⟩ := Option.isSome_iff_exists.1 hA; have hr := run_loadCells_list (P := P) (w := w) a cs (fun j v hj => (hc j v hj).cell hw); simp only [execOp, hx, Instr.loadAt, Instr.sureAddr, loadVar, Sem.run_bind, Sem.run_pure, Result.andThen_ok, ht, if_true, hz]; rw [← hn, hr]
 rfl
theorem cels_own (j : Nat) {b off : Nat} {l cs : List Value} {T : TypeId} {fr : Nat × Nat} (h : nth L j = some [(b, .cells l.toArray T fr)]) (hv : (l.drop off).take cs.length = cs) : Cels V L (some ⟨b, off, none⟩) cs := by
 intro i c hi; rw [idx_some]; refine cel_own j h ?_; rw [nth_eq]; have hi' := hi; rw [← hv, List.getElem?_take] at hi'
 split at hi'
 ·rw [List.getElem?_drop] at hi'; exact hi'
 ·cases hi'
end

/-! ### memory that changes -/
theorem SH.alloc {w0 w : World} {V : Mem} {L : List Grp} (h : SH w0 V w L) (o : Obj) : SH w0 V { w with heap := w.heap.push o } (L ++ [[(w.heap.size, o)]]) := by
 have hlt : ∀ k o', w.heap[k]? = some o' → k < w.heap.size := fun k o' hk => (Array.getElem?_eq_some_iff.1 hk).1; have hold : ∀ k o', w.heap[k]? = some o' → (w.heap.push o)[k]? = some o' := fun k o' hk => by
  rw [Array.getElem?_push, if_neg (by have := hlt k o' hk; omega)]; exact hk
 refine ⟨h.os, h.tape, h.output, by simp; have := h.size; omega, fun k o' hk => hold k o' (h.imm k o' hk), ?_, ?_, ?_⟩
 ·intro e he; simp only [List.flatten_append, List.mem_append] at he; rcases he with he | he
  ·exact hold _ _ (h.own e he)
  ·simp at he; subst he; simp
 ·simp only [List.flatten_append, List.map_append]; rw [List.nodup_append]; refine ⟨h.nodup, by simp, ?_⟩; intro x hx y hy hxy; subst hxy; simp at hy; obtain ⟨e, he, rfl⟩ := List.mem_map.1 hx; have := hlt _ _ (h.own e he); omega
 ·intro e he o' ho; simp only [List.flatten_append, List.mem_append] at he; rcases he with he | he
  ·exact h.sep e he o' ho
  ·simp at he; subst he; have := hlt _ _ (h.imm _ _ ho); omega
def setG (L : List Grp) (j : Nat) (G : Grp) : List Grp :=
 match L, j with
 | [], _ => []
 | _ :: l, 0 => G :: l
 | x :: l, n + 1 => x :: setG l n G
theorem setG_split : ∀ {L : List Grp} {j : Nat} {G : Grp}, nth L j = some G → ∃ a b, L = a ++ G :: b ∧ ∀ H, setG L j H = a ++ H :: b
 | [], _, _, h => by simp [nth] at h
 | x :: l, 0, G, h => by simp [nth] at h; subst h; exact ⟨[], l, rfl, fun _ => rfl⟩
 | x :: l, n + 1, G, h => by
  obtain ⟨a, b, h1, h2⟩ := setG_split (L := l) (j := n) (G := G) h; exact ⟨x :: a, b, by rw [h1]; rfl, fun H => by show x :: setG l n H = _; rw [h2]; rfl⟩
/-- One block of the call's own is written. -/
theorem SH.put {w0 w w' : World} {V : Mem} {L : List Grp} (h : SH w0 V w L) {j b : Nat} {o o' : Obj} {r : Grp} (hj : nth L j = some ((b, o) :: r)) (ho : w'.os = w.os) (ht : w'.tape = w.tape) (hu : w'.output = w.output) (hsz : w'.heap.size = w.heap.size)
  (hb : w'.heap[b]? = some o') (hk : ∀ k, k ≠ b → w'.heap[k]? = w.heap[k]?) : SH w0 V w' (setG L j ((b, o') :: r)) := by
 obtain ⟨p, q, hL, hs⟩ := setG_split hj; rw [hs]; have hflat : L.flatten = p.flatten ++ ((b, o) :: (r ++ q.flatten)) := by rw [hL]; simp
 have hnd := h.nodup; rw [hflat, List.map_append, List.map_cons, List.nodup_append, List.nodup_cons] at hnd; obtain ⟨n1, ⟨n2, n3⟩, n4⟩ := hnd; have hmem : ∀ e, e ∈ L.flatten ↔ e ∈ p.flatten ∨ e = (b, o) ∨ e ∈ r ++ q.flatten := fun e => by rw [hflat]; simp [List.mem_append]
 have hflat' : (p ++ ((b, o') :: r) :: q).flatten = p.flatten ++ ((b, o') :: (r ++ q.flatten)) := by simp
 refine ⟨ho.trans h.os, ht.trans h.tape, hu.trans h.output, by rw [hsz]; exact h.size, ?_, ?_, ?_, ?_⟩
 ·intro k o1 hk1; rw [hk]
  ·exact h.imm k o1 hk1
  ·rintro rfl; exact h.sep (k, o) ((hmem _).2 (.inr (.inl rfl))) o1 hk1
 ·intro e he; rw [hflat'] at he; simp only [List.mem_append, List.mem_cons] at he; rcases he with he | rfl | he
  ·rw [hk]
   ·exact h.own e ((hmem _).2 (.inl he))
   ·exact fun e1 => n4 e.1 (List.mem_map_of_mem he) b (by simp) e1
  ·exact hb
  ·have he' : e ∈ r ++ q.flatten := List.mem_append.2 he; rw [hk]
   ·exact h.own e ((hmem _).2 (.inr (.inr he')))
   ·intro e1; have hm : e.1 ∈ (r ++ q.flatten).map (fun x : Ent => x.1) := List.mem_map_of_mem he'; rw [e1] at hm; exact n2 hm
 ·rw [hflat', List.map_append, List.map_cons, List.nodup_append, List.nodup_cons]; exact ⟨n1, ⟨n2, n3⟩, n4⟩
 ·intro e he o1 hV; rw [hflat'] at he; simp only [List.mem_append, List.mem_cons] at he; rcases he with he | rfl | he
  ·exact h.sep e ((hmem _).2 (.inl he)) o1 hV
  ·exact h.sep (b, o) ((hmem _).2 (.inr (.inl rfl))) o1 hV
  ·exact h.sep e ((hmem _).2 (.inr (.inr (by simpa using he)))) o1 hV
theorem SH.perm {w0 w : World} {V : Mem} {L L' : List Grp} (h : SH w0 V w L) (hs : L.flatten.Perm L'.flatten) : SH w0 V w L' :=
 ⟨h.os, h.tape, h.output, h.size, h.imm, fun e he => h.own e (hs.mem_iff.2 he), ((hs.map (·.1)).nodup_iff).1 h.nodup, fun e he => h.sep e (hs.mem_iff.2 he)⟩

section
variable {P : Program} {N : Nm} {w0 : World} {V : Mem} {Q : Exit → Frm → List Grp → Prop} {f : Frm} {L : List Grp} {ops : Array Oper} {rest : List Oper}
variable {d : Nat} {ty : TypeId} {ps : String} {af : Array Edge} {x y : Operand} {v : Value}

theorem o_alloc {t : TypeId} {l : List Value} {z : Value} (hN : Nat.blt d N = true) (hz : ∀ w, (zeroValue t).run P w = .ok z w) (hl : z.cells = l.toArray)
  (h : ∀ b, opsS P N w0 V ops Q rest (upd f d (.pointer (some ⟨b, 0, none⟩))) (L ++ [[(b, .cells l.toArray t (0, 0))]])) : opsS P N w0 V ops Q (⟨some d, .alloc t, ty, ps, af, none⟩ :: rest) f L := by
 refine o_effE (d := d) (fun v L' => ∃ b, v = .pointer (some ⟨b, 0, none⟩) ∧ L' = L ++ [[(b, .cells l.toArray t (0, 0))]]) rfl rfl hN (fun w hw => ?_) ?_
 ·refine ⟨.pointer (some ⟨w.heap.size, 0, none⟩), _, _, ?_, hw.alloc (.cells z.cells t), w.heap.size, rfl, by rw [hl]⟩; simp only [execOp, Instr.alloc, Sem.run_bind, hz, Result.andThen_ok, newVar, newRow, run_newObj, Sem.run_pure]
 ·rintro v L' ⟨b, rfl, rfl⟩; exact h b
theorem o_box {t : TypeId} {l : List Value} (hN : Nat.blt d N = true) (hx : evF f x = v) (hl : v.cells = l.toArray)
  (h : ∀ b, opsS P N w0 V ops Q rest (upd f d (.pointer (some ⟨b, 0, none⟩))) (L ++ [[(b, .cells l.toArray t (0, 0))]])) : opsS P N w0 V ops Q (⟨some d, .box t x, ty, ps, af, none⟩ :: rest) f L := by
 refine o_effE (d := d) (fun v L' => ∃ b, v = .pointer (some ⟨b, 0, none⟩) ∧ L' = L ++ [[(b, .cells l.toArray t (0, 0))]]) rfl rfl hN (fun w hw => ?_) ?_
 ·refine ⟨.pointer (some ⟨w.heap.size, 0, none⟩), _, _, ?_, hw.alloc (.cells v.cells t), w.heap.size, rfl, by rw [hl]⟩; simp only [execOp, hx, Instr.box, Sem.run_bind, Result.andThen_ok, newVar, newRow, run_newObj, Sem.run_pure]
 ·rintro v L' ⟨b, rfl, rfl⟩; exact h b

/-- A store of one cell into a block of the call's own, through an address that is written out. -/
theorem o_store {t T : TypeId} {b off : Nat} {l : List Value} {r : Grp} (j : Nat) (hj : nth L j = some ((b, .cells l.toArray T (0, 0)) :: r)) (hz : ∀ w, (sizeOf t).run P w = .ok 1 w) (hx : evF f x = .pointer (some ⟨b, off, none⟩)) (hy : evF f y = v) (hv : v.oneCell' = true) (ho : Nat.blt off l.length = true)
  (h : opsS P N w0 V ops Q rest f (setG L j ((b, .cells (l.set off v).toArray T (0, 0)) :: r))) : opsS P N w0 V ops Q (⟨none, .store t x y, ty, ps, af, none⟩ :: rest) f L := by
 have ho' : off < l.length := by simpa [Nat.blt_eq] using ho
 refine o_skip rfl rfl (fun w hw => ?_) h; have hb : w.heap[b]? = some (.cells l.toArray T (0, 0)) := hw.own (b, .cells l.toArray T (0, 0)) (nth_mem hj _ (by simp)); have hc : v.cells = #[v] := by cases v <;> simp_all [Value.oneCell', Value.cells]
 have hcell : w.cell? ⟨b, off, none⟩ = some l[off] := by rw [cell_of_row w b off _ T (0, 0) hb]; simp [ho']
 have hfr := frozen_of_row w b off _ T hb; refine ⟨w.setCell ⟨b, off, none⟩ v, ?_, hw.put (o' := .cells (l.set off v).toArray T (0, 0)) hj rfl rfl rfl (by simp [World.setCell]) ?_ ?_⟩
 ·simp only [execOp, hx, hy, Instr.storeAt, Instr.sureAddr, storeVar, Sem.run_bind, Sem.run_pure, Result.andThen_ok, hz, hc]; simp only [List.size_toArray, List.length_cons, List.length_nil, Nat.zero_add, ne_eq, not_true_eq_false, if_false, storeCells, Sem.run_bind]; rw [show (⟨b, off, none⟩ : Addr).add 0 = ⟨b, off, none⟩ from rfl, run_store _ _ _ _ _ hv, hcell, hfr]
  rfl
 ·rw [heap_setCell_same w b off _ T v hb]; simp
 ·exact fun k hk => heap_setCell_other w _ k v hk
end
end Go.Proofs.YtlkajdcgdoijjaaGreatDoor.K
end
section
namespace Go.Proofs.YtlkajdcgdoijjaaGreatDoor.K
open Go.RowKit

theorem Cels.mono {V V' : Mem} {L L' : List Grp} {A : Option Addr} {cs : List Value} (h : Cels V L A cs) (hm : ∀ b o, ext V L b o → ext V' L' b o) : Cels V' L' A cs := by
  intro i c hi; obtain ⟨a, arr, T, fr, e, hs, hb, hc⟩ := h i c hi; exact ⟨a, arr, T, fr, e, hs, hm _ _ hb, hc⟩
/-- What is read of the memory at the call is read everywhere. -/
theorem Cels.here {V : Mem} {L : List Grp} {A : Option Addr} {cs : List Value} (h : Cels V [] A cs) : Cels V L A cs :=
  h.mono fun _ _ hb => by rcases hb with hb | hb; exact .inl hb; simp at hb
theorem Cels.down {V : Mem} {R : List Grp} {A : Option Addr} {cs : List Value} (h : Cels V R A cs) : Cels (ext V R) [] A cs :=
  h.mono fun _ _ hb => .inl hb
theorem Cels.up {V : Mem} {R : List Grp} {A : Option Addr} {cs : List Value} (h : Cels (ext V R) [] A cs) : Cels V R A cs :=
  h.mono fun _ _ hb => by rcases hb with hb | hb; exact hb; simp at hb
theorem Cels.nil {V : Mem} {L : List Grp} {A : Option Addr} : Cels V L A [] := fun i c h => by simp at h
theorem Cels.cel {V : Mem} {L : List Grp} {A : Option Addr} {cs : List Value} (h : Cels V L A cs) {i : Nat} {c : Value} (hi : cs[i]? = some c) : Cel V L (idx A i) c := h i c hi
theorem Cels.isSome {V : Mem} {L : List Grp} {A : Option Addr} {cs : List Value} (h : Cels V L A cs) {i : Nat} (hi : i < cs.length) : A.isSome = true := by
  have := (h i cs[i] (by simp [hi])).some
  cases A with
  | none => simp [idx] at this
  | some a => rfl
theorem Cels.sub {V : Mem} {L : List Grp} {A : Option Addr} {cs ds : List Value} (h : Cels V L A cs) (k : Nat) (hd : ∀ i c, ds[i]? = some c → cs[k + i]? = some c) : Cels V L (idx A k) ds := by
  intro i c hi; rw [idx_idx]; exact h _ _ (hd i c hi)
theorem Cels.part {V : Mem} {L : List Grp} {A : Option Addr} {cs : List Value} (h : Cels V L A cs) (k n : Nat) : Cels V L (idx A k) ((cs.drop k).take n) :=
  h.sub k fun i c hi => by
    rw [List.getElem?_take] at hi
    split at hi
    · rwa [List.getElem?_drop] at hi
    · cases hi

/-- A slice of the call's own: at 'A', 'n' long, 'cap' wide, of elements of type 'T' ('sz' cells each), holding 'cs'; its block is the group 'E'. -/
def OS (A : Option Addr) (n cap : Nat) (T : TypeId) (sz : Nat) (cs : List Value) (E : Grp) : Prop :=
  cs.length = n * sz ∧ n ≤ cap ∧ cap ≤ maxLen ∧
  ((A = none ∧ cap = 0 ∧ E = []) ∨
   ∃ r pre sp post, A = some ⟨r, pre.length, none⟩ ∧ E = [(r, .cells (pre ++ cs ++ sp ++ post).toArray T (0, 0))] ∧ cs.length + sp.length = cap * sz)

section
variable {A : Option Addr} {n cap : Nat} {T : TypeId} {sz : Nat} {cs : List Value} {E : Grp}
theorem OS.nil (T : TypeId) (sz : Nat) : OS none 0 0 T sz [] [] := ⟨by simp, Nat.le_refl _, Nat.zero_le _, .inl ⟨rfl, rfl, rfl⟩⟩
theorem OS.len (h : OS A n cap T sz cs E) : cs.length = n * sz := h.1
theorem OS.cels {V : Mem} {L : List Grp} (h : OS A n cap T sz cs E) {j : Nat} (hj : nth L j = some E) : Cels V L A cs := by
  obtain ⟨h1, h2, h3, h4⟩ := h; rcases h4 with ⟨rfl, rfl, rfl⟩ | ⟨r, pre, sp, post, rfl, rfl, hl⟩
  · have : n = 0 := by omega
    subst this; have : cs = [] := List.eq_nil_of_length_eq_zero (by simpa using h1); subst this; exact Cels.nil
  · intro i c hi
    rw [idx_some]; refine cel_own j hj ?_; rw [nth_eq, List.append_assoc, List.append_assoc, List.getElem?_append_right (by omega), Nat.add_sub_cancel_left]; rw [List.getElem?_append_left]
    · exact hi
    · exact (List.getElem?_eq_some_iff.1 hi).1
theorem OS.isSome (h : OS A n cap T sz cs E) (hn : 0 < cap) : A.isSome = true := by
  obtain ⟨h1, h2, h3, h4⟩ := h; rcases h4 with ⟨rfl, h, _⟩ | ⟨r, pre, sp, post, rfl, rfl, hl⟩
  · omega
  · rfl

theorem OS.some_of (h : OS A n cap T sz cs E) (hn : 0 < n) : A.isSome = true := h.isSome (Nat.lt_of_lt_of_le hn h.2.1)
theorem setRow_put {w0 w : World} {V : Mem} {L : List Grp} (hw : SH w0 V w L) {j b : Nat} {l l' : List Value} {T : TypeId} {r : Grp} (hj : nth L j = some ((b, .cells l.toArray T (0, 0)) :: r)) : SH w0 V (w.setRow b l'.toArray) (setG L j ((b, .cells l'.toArray T (0, 0)) :: r)) := by
  have hb : w.heap[b]? = some (.cells l.toArray T (0, 0)) := hw.own (b, .cells l.toArray T (0, 0)) (nth_mem hj _ (by simp)); exact hw.put hj rfl rfl rfl (by simp) (setRow_heap w b _ _ T _ hb) (fun k hk => setRow_other w b k _ hk)
end

section
variable {P : Program} {N : Nm} {w0 : World} {V : Mem} {Q : Exit → Frm → List Grp → Prop} {f : Frm} {L : List Grp} {ops : Array Oper} {rest : List Oper}
variable {ty : TypeId} {ps : String} {af : Array Edge} {x y : Operand} {v : Value}

/-- The cells 'vs' laid over a list from place 'k' on. -/
def lay (l : List Value) (k : Nat) (vs : List Value) : List Value := l.take k ++ vs ++ l.drop (k + vs.length)
theorem lay_length (l : List Value) (k : Nat) (vs : List Value) (h : k + vs.length ≤ l.length) : (lay l k vs).length = l.length := by
  simp [lay]; omega
theorem lay_append (pre cs post : List Value) (k : Nat) (vs : List Value) (h : k + vs.length ≤ cs.length) : lay (pre ++ cs ++ post) (pre.length + k) vs = pre ++ lay cs k vs ++ post := by
  unfold lay; have h1 : (pre ++ cs ++ post).take (pre.length + k) = pre ++ cs.take k := by
    rw [List.append_assoc, List.take_append, List.take_of_length_le (by omega), Nat.add_sub_cancel_left, List.take_append_of_le_length (by omega)]
  have h2 : (pre ++ cs ++ post).drop (pre.length + k + vs.length) = cs.drop (k + vs.length) ++ post := by
    rw [List.append_assoc, Nat.add_assoc, List.drop_append, List.drop_of_length_le (by omega), Nat.add_sub_cancel_left, List.nil_append, List.drop_append_of_le_length (by omega)]
  rw [h1, h2]; simp
theorem lay_one (l : List Value) (k : Nat) (v : Value) (h : k < l.length) : lay l k [v] = l.set k v := by
  rw [List.set_eq_take_append_cons_drop, if_pos h]; simp [lay]

/-- A store of a value of several cells into a block of the call's own. -/
theorem o_stores {t T : TypeId} {b off : Nat} {l vs : List Value} {r : Grp} (j : Nat) (hj : nth L j = some ((b, .cells l.toArray T (0, 0)) :: r)) (hz : ∀ w, (sizeOf t).run P w = .ok vs.length w) (hx : evF f x = .pointer (some ⟨b, off, none⟩)) (hy : evF f y = v) (hv : v.cells = vs.toArray) (h1 : ∀ u ∈ vs, u.oneCell' = true) (ho : off + vs.length ≤ l.length)
    (h : opsS P N w0 V ops Q rest f (setG L j ((b, .cells (lay l off vs).toArray T (0, 0)) :: r))) : opsS P N w0 V ops Q (⟨none, .store t x y, ty, ps, af, none⟩ :: rest) f L := by
  refine o_skip rfl rfl (fun w hw => ?_) h; have hb : w.heap[b]? = some (.cells l.toArray T (0, 0)) := hw.own (b, .cells l.toArray T (0, 0)) (nth_mem hj _ (by simp)); have hst := run_storeCells_at P b off T vs 0 l.toArray w hb (by simpa using ho) h1; refine ⟨_, ?_, setRow_put (l' := lay l off vs) hw hj⟩; simp only [execOp, hx, hy, Instr.storeAt, Instr.sureAddr, storeVar, Sem.run_bind, Sem.run_pure, Result.andThen_ok, hz, hv]; simp only [List.size_toArray, ne_eq, not_true_eq_false, if_false, hst, Result.andThen_ok]; simp [lay]
/-- The same through an index into a slice of the call's own. -/
theorem o_store_os {t T : TypeId} {A : Option Addr} {n cap sz k : Nat} {cs vs : List Value} {E : Grp} (j : Nat) (hj : nth L j = some E) (hos : OS A n cap T sz cs E) (hz : ∀ w, (sizeOf t).run P w = .ok vs.length w) (hx : evF f x = .pointer (idx A k)) (hy : evF f y = v) (hv : v.cells = vs.toArray) (h1 : ∀ u ∈ vs, u.oneCell' = true) (h0 : 0 < vs.length) (hk : k + vs.length ≤ cs.length)
    (h : ∀ E', OS A n cap T sz (lay cs k vs) E' → opsS P N w0 V ops Q rest f (setG L j E')) : opsS P N w0 V ops Q (⟨none, .store t x y, ty, ps, af, none⟩ :: rest) f L := by
  obtain ⟨e1, e2, e3, e4⟩ := hos; rcases e4 with ⟨rfl, rfl, rfl⟩ | ⟨r, pre, sp, post, rfl, rfl, hl⟩
  · exfalso
    have : n = 0 := by omega
    subst this; omega
  · rw [idx_some] at hx
    refine o_stores j hj hz hx hy hv h1 (by simp; omega) ?_; have hla : lay (pre ++ cs ++ sp ++ post) (pre.length + k) vs = pre ++ lay cs k vs ++ sp ++ post := by
      rw [List.append_assoc (pre ++ cs), lay_append _ _ _ _ _ hk]; simp
    rw [hla]; have hlen := lay_length cs k vs hk; exact h _ ⟨by rw [hlen]; exact e1, e2, e3, .inr ⟨r, pre, sp, post, rfl, rfl, by rw [hlen]; exact hl⟩⟩

/-- What is appended: its number of elements, and its cells. -/
structure Src (P : Program) (V : Mem) (L : List Grp) (sz : Nat) (u : TypeId) (x : Value) (m : Nat) (news : List Value) : Prop where
  type : (∃ e, P.underlying u = some (.slice e)) ∨ P.underlying u = some .string
  len : ∀ w, (Builtin.lenOf x).run P w = .ok m w
  cells : ∀ w0 w, SH w0 V w L → (Builtin.firstCells sz m x).run P w = .ok news.toArray w
  one : ∀ c ∈ news, c.oneCell' = true
  size : news.length = m * sz
theorem Src.slice {sz : Nat} {u e : TypeId} {A : Option Addr} {m c : Nat} {news : List Value} (hu : P.underlying u = some (.slice e)) (hc : Cels V L A news) (hl : news.length = m * sz) (h1 : ∀ c ∈ news, c.oneCell' = true) (hA : A = none → m = 0) : Src P V L sz u (.slice A m c) m news := by
  refine ⟨.inl ⟨_, hu⟩, fun w => rfl, fun w0 w hw => ?_, h1, hl⟩
  cases A with
  | none =>
    have := hA rfl; subst this; have : news = [] := List.eq_nil_of_length_eq_zero (by simpa using hl); subst this
    rfl
  | some a =>
    show (loadCells a (m * sz)).run P w = _
    rw [← hl]; exact run_loadCells_list w a news fun j v hj => (hc j v hj).cell hw

theorem run_append_fit {t u ty e : TypeId} {i : TypeInfo} (ht : P.underlying t = some (.slice e)) (hi : P.info? e = some i) (hu : (∃ e, P.underlying u = some (.slice e)) ∨ P.underlying u = some .string)
    {r off n cap m : Nat} {x : Value} {news : List Value} {cur : List Value} {w : World} (hlen : ∀ w, (Builtin.lenOf x).run P w = .ok m w) (hc : (Builtin.firstCells i.size m x).run P w = .ok news.toArray w) (hone : ∀ c ∈ news, c.oneCell' = true)
    (hb : w.heap[r]? = some (.cells cur.toArray e (0, 0))) (hroom : n + m ≤ cap) (hfit : off + n * i.size + news.length ≤ cur.length) :
    (Builtin.append_ [t, u].toArray ty [.slice (some ⟨r, off, none⟩) n cap, x].toArray).run P w = .ok (.slice (some ⟨r, off, none⟩) (n + m) cap) (w.setRow r (lay cur (off + n * i.size) news).toArray) := by
  have hst := run_storeCells_at P r (off + n * i.size) e news 0 cur.toArray w hb (by simpa using hfit) hone; have hadd : (⟨r, off, none⟩ : Addr).add (n * i.size) = ⟨r, off + n * i.size, none⟩ := add_plain _ _ _; rcases hu with ⟨e', hu⟩ | hu <;>
    simp [Builtin.append_, run_underlying ht, run_underlying hu, sizeOf, typeInfo, hi, hlen, hc, hroom, hadd, hst, lay]
theorem run_append_none {t u ty e : TypeId} {i : TypeInfo} (ht : P.underlying t = some (.slice e)) (hi : P.info? e = some i) (hu : (∃ e, P.underlying u = some (.slice e)) ∨ P.underlying u = some .string)
    {x : Value} {w : World} (hlen : ∀ w, (Builtin.lenOf x).run P w = .ok 0 w) (hc : (Builtin.firstCells i.size 0 x).run P w = .ok #[] w) :
    (Builtin.append_ [t, u].toArray ty [.slice none 0 0, x].toArray).run P w = .ok (.slice none 0 0) w := by
  rcases hu with ⟨e', hu⟩ | hu <;>
    simp [Builtin.append_, run_underlying ht, run_underlying hu, sizeOf, typeInfo, hi, hlen, hc]
theorem run_append_more {t u ty e : TypeId} {i : TypeInfo} {z : Value} (ht : P.underlying t = some (.slice e)) (hi : P.info? e = some i) (hz : i.zero = some z) (hu : (∃ e, P.underlying u = some (.slice e)) ∨ P.underlying u = some .string)
    {A : Option Addr} {n cap m : Nat} {x : Value} {cs news : List Value} {w : World} (hlen : ∀ w, (Builtin.lenOf x).run P w = .ok m w) (hc : (Builtin.firstCells i.size m x).run P w.drew = .ok news.toArray w.drew) (ho : (Builtin.firstCells i.size n (.slice A n cap)).run P w.drew = .ok cs.toArray w.drew)
    (hg : cap < n + m) (h63 : n + m ≤ maxLen) (hbytes : (n + m) * i.bytes ≤ 140737488355328) :
    (Builtin.append_ [t, u].toArray ty [.slice A n cap, x].toArray).run P w = .ok (.slice (some ⟨w.heap.size, 0, none⟩) (n + m) (grownCap w (n + m) cap e)) (w.drew.alloc (.cells (cs ++ news ++ (Builtin.zeroCells z.cells (grownCap w (n + m) cap e - (n + m))).toList).toArray e)) := by
  have hsmall : n + m ≤ 9223372036854775807 := by simp only [maxLen] at h63; omega
  have hroom : ¬ (n + m ≤ cap) := by omega
  have h63' : ¬ (9223372036854775807 < ((n : Int) + (m : Int))) := by omega
  have hfits := growslice_fits hg hbytes; have h48' : ¬ (281474976710656 < Builtin.nextslicecap (n + m) cap * i.bytes) := by omega
  rcases hu with ⟨e', hu⟩ | hu <;>
    (simp [Builtin.append_, run_underlying ht, run_underlying hu, sizeOf, typeInfo, zeroValue, hi, hz, hlen, hroom, h63', h48', Question.forced, hc, ho, newRow, grownCap]
     congr 2
     apply Array.ext'
     simp)

theorem run_append_any {t u ty e : TypeId} {i : TypeInfo} {z : Value} (ht : P.underlying t = some (.slice e)) (hi : P.info? e = some i) (hz : i.zero = some z) (hzs : z.cells.size = i.size)
    {A : Option Addr} {n cap : Nat} {cs : List Value} {E : Grp} {j : Nat} (hj : nth L j = some E) (hos : OS A n cap e i.size cs E) {x : Value} {m : Nat} {news : List Value} (hsrc : Src P V L i.size u x m news)
    (h63 : n + m ≤ maxLen) (hbytes : (n + m) * i.bytes ≤ 140737488355328) {w : World} (hw : SH w0 V w L) :
    ∃ A' cap' w' E', (Builtin.append_ [t, u].toArray ty [.slice A n cap, x].toArray).run P w = .ok (.slice A' (n + m) cap') w' ∧ SH w0 V w' (setG L j E') ∧ OS A' (n + m) cap' e i.size (cs ++ news) E' ∧ (A' = none → A = none ∧ m = 0) := by
  obtain ⟨hu, hlen, hcells, hone, hsize⟩ := hsrc; have hcl := hos.1; obtain ⟨p, q, hL, hs⟩ := setG_split hj
  by_cases hroom : n + m ≤ cap
  · rcases hos with ⟨e1, e2, e3, e4⟩
    rcases e4 with ⟨rfl, rfl, rfl⟩ | ⟨r, pre, sp, post, rfl, rfl, hl⟩
    · have hn : n = 0 := by omega
      have hm : m = 0 := by omega
      subst hn hm; have hc0 : cs = [] := List.eq_nil_of_length_eq_zero (by simpa using e1); have hn0 : news = [] := List.eq_nil_of_length_eq_zero (by simpa using hsize); subst hc0 hn0; refine ⟨none, 0, w, [], run_append_none ht hi hu hlen (hcells w0 w hw), ?_, OS.nil _ _, fun _ => ⟨rfl, rfl⟩⟩; rw [hs, ← hL]; exact hw
    · have hb : w.heap[r]? = some (.cells (pre ++ cs ++ sp ++ post).toArray e (0, 0)) := hw.own (r, .cells (pre ++ cs ++ sp ++ post).toArray e (0, 0)) (nth_mem hj _ (by simp))
      have hh : news.length ≤ sp.length := by
        have h1 : cs.length + news.length ≤ cs.length + sp.length := by rw [hl, e1, hsize, ← Nat.add_mul]; exact Nat.mul_le_mul_right _ hroom
        omega
      have hspl : lay (pre ++ cs ++ sp ++ post) (pre.length + n * i.size) news = pre ++ (cs ++ news) ++ sp.drop news.length ++ post := by
        have h1 := lay_append (pre ++ cs) sp post 0 news (by simpa using hh); simp only [List.length_append, Nat.add_zero] at h1; rw [← e1, h1]; simp [lay]
      refine ⟨some ⟨r, pre.length, none⟩, cap, _, _, run_append_fit ht hi hu hlen (hcells w0 w hw) hone hb hroom (by rw [← e1]; simp; omega), setRow_put hw hj, ?_, by simp⟩; rw [hspl]; refine ⟨by rw [List.length_append, e1, hsize, Nat.add_mul], hroom, e3, .inr ⟨r, pre, sp.drop news.length, post, rfl, rfl, ?_⟩⟩; simp; omega
  · have hold : ∀ w1, SH w0 V w1 L → (Builtin.firstCells i.size n (.slice A n cap)).run P w1 = .ok cs.toArray w1 := by
      intro w1 hw1; have hcs := hos.cels (V := V) hj
      cases hA : A with
      | none =>
        subst hA; have hn : n = 0 := by
          rcases hos with ⟨e1, e2, e3, e4⟩; rcases e4 with ⟨_, rfl, _⟩ | ⟨r, pre, sp, post, h, _⟩
          · omega
          · cases h
        subst hn; have : cs = [] := List.eq_nil_of_length_eq_zero (by simpa using hcl); subst this
        rfl
      | some a =>
        subst hA
        show (loadCells a (n * i.size)).run P w1 = _
        rw [← hcl]; exact run_loadCells_list w1 a cs fun j v hj => (hcs j v hj).cell hw1
    have hwd : SH w0 V w.drew L := hw.drawn _; have hge := grownCap_ge w (n + m) cap e; have hcm : grownCap w (n + m) cap e ≤ maxLen := grownCap_le_maxLen w (n + m) cap e h63; refine ⟨_, _, _, [(w.heap.size, .cells (cs ++ news ++ (Builtin.zeroCells z.cells (grownCap w (n + m) cap e - (n + m))).toList).toArray e (0, 0))], run_append_more ht hi hz hu hlen (hcells w0 _ hwd) (hold _ hwd) (by omega) h63 hbytes, ?_, ?_, by simp⟩
    · rw [hs]
      have ha := hwd.alloc (.cells (cs ++ news ++ (Builtin.zeroCells z.cells (grownCap w (n + m) cap e - (n + m))).toList).toArray e (0, 0)); refine (ha.perm (L' := p ++ [(w.heap.size, .cells (cs ++ news ++ (Builtin.zeroCells z.cells (grownCap w (n + m) cap e - (n + m))).toList).toArray e (0, 0))] :: (q ++ [E])) ?_).sublist ?_
      · rw [hL]
        simp only [List.flatten_append, List.flatten_cons, List.flatten_nil, List.append_nil, List.append_assoc]; refine List.Perm.append_left _ ?_; refine (List.perm_append_comm (l₁ := E)).trans ?_; refine (List.Perm.append_right E List.perm_append_comm).trans ?_; rw [List.append_assoc]; exact List.Perm.refl _
      · simp only [List.flatten_append, List.flatten_cons, List.flatten_nil, List.append_nil]
        refine List.Sublist.append_left (List.Sublist.append_left ?_ _) _; exact List.sublist_append_left _ _
    · refine ⟨by rw [List.length_append, hcl, hsize, Nat.add_mul], hge, hcm, .inr ⟨w.heap.size, [], (Builtin.zeroCells z.cells (grownCap w (n + m) cap e - (n + m))).toList, [], rfl, by simp, ?_⟩⟩
      simp only [List.length_append, Array.length_toList, size_zeroCells, hzs, hcl, hsize, ← Nat.add_mul]
      congr 1
      omega

/-- append onto a slice of the call's own. -/
theorem o_append {t u e d : TypeId} {i : TypeInfo} {z : Value} {sz bytes : Nat} (j : Nat) (hN : Nat.blt d N = true) (ht : P.underlying t = some (.slice e)) (hi : P.info? e = some i) (hz : i.zero = some z) (hzs : z.cells.size = sz) (hsz : i.size = sz) (hby : i.bytes = bytes)
    {A : Option Addr} {n cap : Nat} {cs : List Value} {E : Grp} (hj : nth L j = some E) (hos : OS A n cap e sz cs E) (hx : evF f x = .slice A n cap) (hy : evF f y = v) {m : Nat} {news : List Value} (hsrc : Src P V L sz u v m news)
    (hb : n + m ≤ 140737488355328 ∧ (n + m) * bytes ≤ 140737488355328)
    (h : ∀ A' cap' E', OS A' (n + m) cap' e sz (cs ++ news) E' → (A' = none → A = none ∧ m = 0) → opsS P N w0 V ops Q rest (upd f d (.slice A' (n + m) cap')) (setG L j E')) :
    opsS P N w0 V ops Q (⟨some d, .call { callee := .builtin .append, args := [x, y].toArray, argTypes := [t, u].toArray }, ty, ps, af, none⟩ :: rest) f L := by
  subst hsz hby; refine o_effE (d := d) (fun v L' => ∃ A' cap' E', v = .slice A' (n + m) cap' ∧ L' = setG L j E' ∧ OS A' (n + m) cap' e i.size (cs ++ news) E' ∧ (A' = none → A = none ∧ m = 0)) rfl rfl hN (fun w hw => ?_) ?_
  · obtain ⟨A', cap', w', E', h1, h2, h3, h4⟩ := run_append_any (ty := ty) ht hi hz hzs hj hos hsrc (by unfold maxLen; omega) hb.2 hw
    refine ⟨_, w', _, ?_, h2, A', cap', E', rfl, rfl, h3, h4⟩; simp only [execOp, resolve, Sem.run_bind, Sem.run_pure, Result.andThen_ok, invoke, builtin, List.map_toArray, List.map_cons, List.map_nil, hx, hy, h1]
  · rintro v L' ⟨A', cap', E', rfl, rfl, h3, h4⟩
    exact h A' cap' E' h3 h4

/-! ### slices cut -/
def cutA (A : Option Addr) (c l sz : Nat) : Option Addr := if c = l then A else idx A (l * sz)
theorem run_cut {t e : TypeId} {z : Nat} (ht : ∀ w, (underlying t).run P w = .ok (.slice e) w) (hz : ∀ w, (sizeOf e).run P w = .ok z w) {A : Option Addr} {n c l h m : Nat} {lo hi mx : Option Value} (hb : ∀ w, (Instr.sliceBounds true n c lo hi mx).run P w = .ok (l, h, m) w) (w : World) :
    (Instr.sliceAt t (.slice A n c) lo hi mx).run P w = .ok (.slice (if m = l then A else idx A (l * z)) (h - l) (m - l)) w := by
  simp [Instr.sliceAt, ht, Instr.slice, hb, hz, idx]
theorem y_cut {t e d : TypeId} {g : Option (Nat × Bool)} {z : Nat} (ht : ∀ w, (underlying t).run P w = .ok (.slice e) w) (hz : ∀ w, (sizeOf e).run P w = .ok z w) {A : Option Addr} {n c l h m : Nat} {lo hi mx : Option Operand} {vl vh vm : Option Value} (hx : evF f x = .slice A n c) (hl : lo.map (evF f) = vl) (hh : hi.map (evF f) = vh) (hm : mx.map (evF f) = vm)
    (hb : ∀ w, (Instr.sliceBounds true n c vl vh vm).run P w = .ok (l, h, m) w) : Yld P f V L ⟨some d, .slice t x lo hi mx, ty, ps, af, g⟩ (.slice (if m = l then A else idx A (l * z)) (h - l) (m - l)) := fun _ w _ => by
  simp only [execOp, hx, hl, hh, hm, Sem.run_bind, run_cut ht hz hb, Result.andThen_ok, Sem.run_pure]
theorem sliceBound_in {k : IntKind} {i : Int} {y : Nat} {c : BoundsCode} (h : 0 ≤ i ∧ i ≤ y) (w : World) : (Instr.sliceBound (.int k i) y c).run P w = .ok i.toNat w := by
  simp [Instr.sliceBound, asIntOf, h]
theorem y_cut_hi {t e d : TypeId} {g : Option (Nat × Bool)} {k : IntKind} {z : Nat} {h : Int} {A : Option Addr} {n c : Nat} (ht : ∀ w, (underlying t).run P w = .ok (.slice e) w) (hz : ∀ w, (sizeOf e).run P w = .ok z w) (hx : evF f x = .slice A n c) (hy : evF f y = .int k h) (hb : 0 ≤ h ∧ h ≤ c) : Yld P f V L ⟨some d, .slice t x none (some y) none, ty, ps, af, g⟩ (.slice A h.toNat c) :=
  (y_cut (l := 0) (h := h.toNat) (m := c) ht hz hx rfl (vh := some (.int k h)) (by simp [hy]) rfl (fun w => by simp [Instr.sliceBounds, sliceBound_in hb])).of_eq (by simp [idx_zero])
theorem y_cut_lo {t e d : TypeId} {g : Option (Nat × Bool)} {k : IntKind} {z : Nat} {l : Int} {A : Option Addr} {n c : Nat} (ht : ∀ w, (underlying t).run P w = .ok (.slice e) w) (hz : ∀ w, (sizeOf e).run P w = .ok z w) (hx : evF f x = .slice A n c) (hy : evF f y = .int k l) (hb : 0 ≤ l ∧ l ≤ n) : Yld P f V L ⟨some d, .slice t x (some y) none none, ty, ps, af, g⟩ (.slice (cutA A c l.toNat z) (n - l.toNat) (c - l.toNat)) :=
  y_cut (l := l.toNat) (h := n) (m := c) ht hz hx (vl := some (.int k l)) (by simp [hy]) rfl rfl (fun w => by simp [Instr.sliceBounds, sliceBound_in hb])
theorem Cels.cut {A : Option Addr} {cs : List Value} (h : Cels V L A cs) (c l sz k : Nat) (hk : c = l → k = 0) : Cels V L (cutA A c l sz) ((cs.drop (l * sz)).take k) := by
  unfold cutA
  split
  · rename_i e; rw [hk e]; simp; exact Cels.nil
  · exact h.part _ _
end
end Go.Proofs.YtlkajdcgdoijjaaGreatDoor.K
end
section
namespace Go.Proofs.YtlkajdcgdoijjaaGreatDoor.K
open Go.RowKit

/-- The same of two slices. -/
structure G2 where
 i : Nat
 A : Option Addr
 n : Nat
 c : Nat
 E : Grp
 B : Option Addr
 m : Nat
 e : Nat
 F : Grp

section
variable {P : Program} {N : Nm} {w0 : World} {V : Mem} {Q : Exit → Frm → List Grp → Prop} {f : Frm} {L : List Grp} {ops : Array Oper} {rest : List Oper} {o : Oper} {d : Nat} {x y : Operand} {v : Value}
variable {ty : TypeId} {ps : String} {af : Array Edge} {g : Option (Nat × Bool)}

theorem o_split {p : Prop} [Decidable p] (hg : o.guard = none) (hd : o.dst = some d) (hN : Nat.blt d N = true) (hy : Yld P f V L o (.bool (decide p))) (ht : p → opsS P N w0 V ops Q rest (upd f d (.bool true)) L) (hf : ¬ p → opsS P N w0 V ops Q rest (upd f d (.bool false)) L) : opsS P N w0 V ops Q (o :: rest) f L := by
 by_cases hp : p
 ·exact o_val hg hd hN (hy.tt hp) (ht hp)
 ·exact o_val hg hd hN (hy.ff hp) (hf hp)
theorem o_splitb {b : Bool} (hg : o.guard = none) (hd : o.dst = some d) (hN : Nat.blt d N = true) (hy : Yld P f V L o (.bool b)) (ht : b = true → opsS P N w0 V ops Q rest (upd f d (.bool true)) L) (hf : b = false → opsS P N w0 V ops Q rest (upd f d (.bool false)) L) : opsS P N w0 V ops Q (o :: rest) f L := by
 cases b with
 | true => exact o_val hg hd hN hy (ht rfl)
 | false => exact o_val hg hd hN hy (hf rfl)
/-- The j-th group comes to the front. -/
def pull (j : Nat) (L : List Grp) : List Grp :=
 match L, j with
 | [], _ => []
 | x :: l, 0 => x :: l
 | x :: l, n + 1 => match pull n l with
  | [] => [x]
  | y :: r => y :: x :: r
theorem pull_perm : ∀ (j : Nat) (L : List Grp), L.flatten.Perm (pull j L).flatten
 | _, [] => by simp [pull]
 | 0, x :: l => by simp [pull]
 | n + 1, x :: l => by
  have ih := pull_perm n l; simp only [pull]
  cases hp : pull n l with
  | nil =>
   rw [hp] at ih; simp only [List.flatten_cons, List.flatten_nil]; exact List.Perm.append_left x (by simpa using ih)
  | cons y r =>
   rw [hp] at ih; simp only [List.flatten_cons] at ih ⊢; refine (List.Perm.append_left x ih).trans ?_; rw [← List.append_assoc, ← List.append_assoc]; exact List.Perm.append_right _ List.perm_append_comm
/-- Some groups, by their places (each place counted in what is left). -/
def picks : List Nat → List Grp → List Grp
 | [], _ => []
 | j :: js, L => match pull j L with
  | [] => []
  | x :: r => x :: picks js r
theorem sub_picks' : ∀ (js : List Nat) (A L : List Grp), Sub (A ++ picks js L) (A ++ L)
 | [], A, L => by simp only [picks, List.append_nil]; exact sub_front ⟨L, rfl⟩
 | j :: js, A, L => by
  intro w0 V w h; have h1 : SH w0 V w (A ++ pull j L) := h.perm (by
   rw [List.flatten_append, List.flatten_append]; exact List.Perm.append_left _ (pull_perm j L))
  simp only [picks]
  cases hp : pull j L with
  | nil => exact h.sublist (by simp)
  | cons x r =>
   rw [hp] at h1; have h2 : SH w0 V w ((A ++ [x]) ++ r) := by simpa using h1
   have := sub_picks' js (A ++ [x]) r w0 V w h2
   simpa using this
theorem sub_picks (js : List Nat) {L L' : List Grp} (h : picks js L = L') : Sub L' L := h ▸ sub_picks' js [] L
theorem o_pull (j : Nat) (h : opsS P N w0 V ops Q rest f (pull j L)) : opsS P N w0 V ops Q rest f L :=
 o_sub _ (fun _ hw => hw.perm (pull_perm j L)) h
theorem sub_flatten {L L' : List Grp} (h : L'.Sublist L) : L'.flatten.Sublist L.flatten := by
 induction h with
 | slnil => exact List.Sublist.refl _
 | cons a _ ih => exact ih.trans (List.sublist_append_right _ _)
 | cons_cons a _ ih => exact List.Sublist.append_left ih a
theorem run_call {fid : FuncId} {ts : Array TypeId} {xs : List Operand} {vs : List Value} (hc : ∀ args w, (callFunc fid args).run P w = .ok (.enter fid args) w) (hx : xs.map (evF f) = vs) (w : World) :
  (execOp (evF f) ⟨some d, .call { callee := .value (.func fid), args := xs.toArray, argTypes := ts }, ty, ps, af, g⟩).run P w = .ok (.enter fid vs.toArray) w := by
 have e : xs.toArray.map (evF f) = vs.toArray := by rw [List.map_toArray, hx]
 simp only [execOp, resolve, e, evF, Deferred.ofValue, Sem.run_bind, Sem.run_pure, Result.andThen_ok, invoke]; simp [hc]
theorem run_callv {fid : FuncId} {ts : Array TypeId} {xs : List Operand} {vs cap : List Value} (hc : ∀ args w, (callFunc fid args).run P w = .ok (.enter fid args) w) (hf : evF f x = .func (.func fid) #[] cap.toArray) (hx : xs.map (evF f) = vs) (w : World) :
  (execOp (evF f) ⟨some d, .call { callee := .value x, args := xs.toArray, argTypes := ts }, ty, ps, af, g⟩).run P w = .ok (.enter fid (vs ++ cap).toArray) w := by
 have e : xs.toArray.map (evF f) = vs.toArray := by rw [List.map_toArray, hx]
 simp only [execOp, resolve, e, hf, Deferred.ofValue, Sem.run_bind, Sem.run_pure, Result.andThen_ok, invoke]; simp [hc]
/-- A call of a named function: the first 'n' groups are handed over, the rest is only read. -/
theorem o_fn (n : Nat) {fid : FuncId} {ts : Array TypeId} {xs : List Operand} {vs : List Value} {post : Value → List Grp → Prop} (hN : Nat.blt d N = true) (hc : ∀ args w, (callFunc fid args).run P w = .ok (.enter fid args) w)
  (hcon : CallS P fid vs.toArray (ext V (L.drop n)) (L.take n) post) (hx : xs.map (evF f) = vs) (h : ∀ v L1, post v L1 → opsS P N w0 V ops Q rest (upd f d v) (L1 ++ L.drop n)) :
  opsS P N w0 V ops Q (⟨some d, .call { callee := .value (.func fid), args := xs.toArray, argTypes := ts }, ty, ps, af, none⟩ :: rest) f L := by
 refine o_call (d := d) rfl rfl hN (run_call hc hx) (hcon.frame (L := L) (by rw [List.take_append_drop])) ?_; rintro v L' ⟨L1, hp, rfl⟩; exact h v L1 hp
theorem o_fnv (n : Nat) {fid : FuncId} {ts : Array TypeId} {xs : List Operand} {vs cap : List Value} {post : Value → List Grp → Prop} (hN : Nat.blt d N = true) (hc : ∀ args w, (callFunc fid args).run P w = .ok (.enter fid args) w)
  (hcon : CallS P fid (vs ++ cap).toArray (ext V (L.drop n)) (L.take n) post) (hf : evF f x = .func (.func fid) #[] cap.toArray) (hx : xs.map (evF f) = vs) (h : ∀ v L1, post v L1 → opsS P N w0 V ops Q rest (upd f d v) (L1 ++ L.drop n)) :
  opsS P N w0 V ops Q (⟨some d, .call { callee := .value x, args := xs.toArray, argTypes := ts }, ty, ps, af, none⟩ :: rest) f L := by
 refine o_call (d := d) rfl rfl hN (run_callv hc hf hx) (hcon.frame (L := L) (by rw [List.take_append_drop])) ?_; rintro v L' ⟨L1, hp, rfl⟩; exact h v L1 hp

theorem s_group {c : Code} (h : wpS P N w0 V c Q f (L ++ [[]])) : wpS P N w0 V c Q f L :=
 s_sub _ (fun _ hw => hw.perm (by simp)) h
theorem o_newgroup (h : opsS P N w0 V ops Q rest f (L ++ [[]])) : opsS P N w0 V ops Q rest f L :=
 o_sub _ (fun _ hw => hw.perm (by simp)) h
/-! ### bytes as a string -/
def mkB (bs : List Int) : ByteArray := bs.foldl (fun r n => r.push (UInt8.ofNat n.toNat)) ByteArray.empty
theorem mkB_eq (bs : List Int) : mkB bs = ⟨(bs.map fun n => UInt8.ofNat n.toNat).toArray⟩ := by
 have h : ∀ (bs : List Int) (r : ByteArray), bs.foldl (fun r n => r.push (UInt8.ofNat n.toNat)) r = ⟨r.data ++ (bs.map fun n => UInt8.ofNat n.toNat).toArray⟩ := by
  intro bs
  induction bs with
  | nil => intro r; simp
  | cons b bs ih => intro r; rw [List.foldl_cons, ih]; simp [ByteArray.push]
 unfold mkB; rw [h]; simp
theorem y_bytes_str {S D e : TypeId} {A : Option Addr} {n c : Nat} {bs : List Int} (hs : P.underlying S = some (.slice e)) (he : P.underlying e = some (.int .u8)) (hd : P.underlying D = some .string) (hx : evF f x = .slice A n c) (hc : Cels V L A (bs.map (.int .u8))) (hn : bs.length = n) :
  Yld P f V L ⟨some d, .convert S D x, ty, ps, af, g⟩ (.string (mkB bs)) := fun w0 w hw => by
 simp only [execOp, hx, Sem.run_bind, run_convert_bytes_string w S D e A n c hs he hd]
 cases A with
 | none =>
  have : bs = [] := by
   cases bs with
   | nil => rfl
   | cons b l => have := hc.isSome (i := 0) (by simp); cases this
  subst this
  rfl
 | some a =>
  have hl := run_loadCells_list (P := P) (w := w) a (bs.map (.int .u8)) fun j v hj => (hc j v hj).cell hw; rw [List.length_map, hn] at hl; rw [run_bytesToString w a n c bs hl]
  rfl

/-! ### what is appended -/
theorem one_int (k : IntKind) (bs : List Int) : ∀ c ∈ bs.map (Value.int k), c.oneCell' = true := by
 intro c hc; obtain ⟨b, _, rfl⟩ := List.mem_map.1 hc; rfl
theorem Cels.none_nil {cs : List Value} (h : Cels V L none cs) : cs = [] := by
 cases cs with
 | nil => rfl
 | cons a l => have := h.isSome (i := 0) (by simp); cases this
theorem Src.rd {sz : Nat} {u e : TypeId} {A : Option Addr} {m c : Nat} {news : List Value} (hu : P.underlying u = some (.slice e)) (hc : Cels V L A news) (hl : news.length = m * (sz + 1)) (h1 : ∀ c ∈ news, c.oneCell' = true) : Src P V L (sz + 1) u (.slice A m c) m news :=
 Src.slice hu hc hl h1 fun hA => by
  subst hA; have := hc.none_nil; subst this; simp [Nat.mul_add] at hl; omega
theorem eqGuard_agg {op : BinOp} {t : TypeId} {xs ys : Array Value} (h : P.eqGuardType P.depth t = false) (w : World) : (eqGuard op t x y (.agg xs) (.agg ys)).run P w = .ok () w := run_eqGuard_agg w op t x y xs ys h
/-! ### elements -/
theorem Cels.cel' {A : Option Addr} {cs : List Value} {k : Nat} (h : Cels V L (idx A k) cs) {i : Nat} {c : Value} (hi : nth cs i = some c) : Cel V L (idx A (k + i)) c := by
 rw [nth_eq] at hi; have := h.cel hi
 rwa [idx_idx] at this
theorem y_index1 {t E : TypeId} {k : IntKind} {A : Option Addr} {n c : Nat} {i : Int} (ht : ∀ w, (underlying t).run P w = .ok (.slice E) w) (hz : ∀ w, (sizeOf E).run P w = .ok 1 w) (hA : A.isSome = true) (hx : evF f x = .slice A n c) (hy : evF f y = .int k i) (h : 0 ≤ i ∧ i < n) :
  Yld P f V L ⟨some d, .indexAddr t x y, ty, ps, af, g⟩ (.pointer (idx A i.toNat)) := (y_indexAddr ht hz hA hx hy h).of_eq (by rw [Nat.mul_one])
theorem y_fieldX {s i F k : TypeId} {fs : Array Field} {fd : Field} {A : Option Addr} {n : Nat} (hs : ∀ w, (underlying s).run P w = .ok (.struct fs) w) (hf : fs[i]? = some fd) (hz : ∀ w, (sizeOf fd.type).run P w = .ok (n + 1) w) (hF : fd.offset = F)
  (hA : A.isSome = true) (hx : evF f x = .pointer (idx A k)) : Yld P f V L ⟨some d, .fieldAddr s x i, ty, ps, af, g⟩ (.pointer (idx A (k + F))) :=
 (y_fieldAddr hs hf hz hF (by cases A <;> simp_all [idx]) hx).of_eq (by rw [idx_idx])
theorem cel_int {A : Option Addr} {k : IntKind} {bs : List Int} (h : Cels V L A (bs.map (.int k))) {i : Nat} (hi : i < bs.length) : Cel V L (idx A i) (.int k (bs.getD i 0)) :=
 h.cel (by simp [hi])
theorem some_int {A : Option Addr} {k : IntKind} {bs : List Int} (h : Cels V L A (bs.map (.int k))) {i : Nat} (hi : i < bs.length) : A.isSome = true := h.isSome (i := i) (by simpa using hi)
theorem os_lay_int {A : Option Addr} {n c : Nat} {T : TypeId} {k : IntKind} {bs : List Int} {i : Nat} {z : Int} {E : Grp} (h : OS A n c T 1 (lay (bs.map (.int k)) i [.int k z]) E) (hi : i < bs.length) : OS A n c T 1 ((bs.set i z).map (.int k)) E := by
 rw [lay_one _ _ _ (by simpa using hi)] at h
 rwa [List.map_set]
/-- Elements of several cells each. -/
theorem flat_len {α : Type} {enc : α → List Value} {sz : Nat} (hsz : ∀ x, (enc x).length = sz) : ∀ xs : List α, (xs.flatMap enc).length = xs.length * sz
 | [] => by simp
 | x :: xs => by rw [List.flatMap_cons, List.length_append, hsz, flat_len hsz xs, List.length_cons, Nat.add_mul]; omega
theorem flat_at {α : Type} [Inhabited α] {enc : α → List Value} {sz : Nat} (hsz : ∀ x, (enc x).length = sz) : ∀ (xs : List α) (i j : Nat), i < xs.length → j < sz → (xs.flatMap enc)[i * sz + j]? = (enc (xs.getD i default))[j]?
 | [], _, _, h, _ => by simp at h
 | x :: xs, 0, j, _, hj => by
  rw [List.flatMap_cons, List.getElem?_append_left (by rw [hsz]; omega)]; simp
 | x :: xs, i + 1, j, h, hj => by
  rw [List.flatMap_cons, List.getElem?_append_right (by rw [hsz, Nat.add_mul]; omega), hsz, show (i + 1) * sz + j - sz = i * sz + j by rw [Nat.add_mul]; omega, flat_at hsz xs i j (by simpa using h) hj]; simp
theorem cels_at {α : Type} [Inhabited α] {enc : α → List Value} {sz : Nat} (hsz : ∀ x, (enc x).length = sz) {A : Option Addr} {xs : List α} (h : Cels V L A (xs.flatMap enc)) {i : Nat} (hi : i < xs.length) : Cels V L (idx A (i * sz)) (enc (xs.getD i default)) :=
 h.sub _ fun j c hj => by
  rw [flat_at hsz xs i j hi (by rw [← hsz (xs.getD i default)]; exact (List.getElem?_eq_some_iff.1 hj).1)]; exact hj
theorem some_at {α : Type} {enc : α → List Value} {sz : Nat} (hsz : ∀ x, (enc x).length = sz + 1) {A : Option Addr} {xs : List α} (h : Cels V L A (xs.flatMap enc)) {i : Nat} (hi : i < xs.length) : A.isSome = true := by
 refine h.isSome (i := i) ?_; rw [flat_len hsz, Nat.mul_add]; omega

/-- A slice literal: a new block. -/
theorem o_lit {t e n : Nat} {xs : List (Nat × Operand)} {vs : List (Nat × Value)} {l : List Value} (hN : Nat.blt d N = true) (hx : xs.map (fun p => (p.1, evF f p.2)) = vs)
  (hr : ∀ w, (Instr.buildSlice t n vs.toArray).run P w = .ok (.slice (some ⟨w.heap.size, 0, none⟩) n n) { w with heap := w.heap.push (.cells l.toArray e (0, 0)) })
  (h : ∀ b, opsS P N w0 V ops Q rest (upd f d (.slice (some ⟨b, 0, none⟩) n n)) (L ++ [[(b, .cells l.toArray e (0, 0))]])) : opsS P N w0 V ops Q (⟨some d, .buildSlice t n xs.toArray, ty, ps, af, none⟩ :: rest) f L := by
 refine o_effE (d := d) (fun v L' => ∃ b, v = .slice (some ⟨b, 0, none⟩) n n ∧ L' = L ++ [[(b, .cells l.toArray e (0, 0))]]) rfl rfl hN (fun w hw => ?_) ?_
 ·refine ⟨_, _, _, ?_, hw.alloc _, w.heap.size, rfl, rfl⟩; have e1 : xs.toArray.map (fun x : Nat × Operand => (x.1, evF f x.2)) = vs.toArray := by rw [List.map_toArray, hx]
  have e2 : (xs.toArray.map fun (i, x) => (i, evF f x)) = vs.toArray := e1; simp only [execOp, e2, Sem.run_bind, hr, Result.andThen_ok, Sem.run_pure]
 ·rintro v L' ⟨b, rfl, rfl⟩; exact h b
/-- A struct put together. -/
theorem y_build {t : Nat} {xs : List (Nat × Operand)} {vs : List (Nat × Value)} (hx : xs.map (fun p => (p.1, evF f p.2)) = vs) (hr : ∀ w, (Instr.build t vs.toArray).run P w = .ok v w) : Yld P f V L ⟨some d, .build t xs.toArray, ty, ps, af, g⟩ v := fun _ w _ => by
 have e1 : xs.toArray.map (fun x : Nat × Operand => (x.1, evF f x.2)) = vs.toArray := by rw [List.map_toArray, hx]
 have e2 : (xs.toArray.map fun (i, x) => (i, evF f x)) = vs.toArray := e1; simp only [execOp, e2, Sem.run_bind, hr, Result.andThen_ok, Sem.run_pure]
/-- A literal's block as a slice of the call's own. -/
theorem OS.lit {b : Nat} {T : TypeId} {sz n : Nat} {l : List Value} (h : l.length = n * sz) (hm : n ≤ maxLen) : OS (some ⟨b, 0, none⟩) n n T sz l [(b, .cells l.toArray T (0, 0))] :=
 ⟨h, Nat.le_refl _, hm, .inr ⟨b, [], [], [], rfl, by simp, by simp [h]⟩⟩
end
end Go.Proofs.YtlkajdcgdoijjaaGreatDoor.K
end
section
namespace Go.Proofs.YtlkajdcgdoijjaaGreatDoor.K
open Go.RowKit

section
variable {P : Program} {ops : Array Oper} {md : Region.Mode} {C : World → Prop} {Q : Exit → Act → World → Prop}

/-- In every world of the class the operation yields 'v'; or it is passed over. -/
def YV (P : Program) (ops : Array Oper) (C : World → Prop) (o : Oper) (v : Value) (a : Act) : Prop :=
 (Region.wanted o (yielded ops a.tmps) = true ∧ ∀ w, C w → (execOp a.eval o).run P w = .ok (.value v) w) ∨
 (Region.wanted o (yielded ops a.tmps) = false ∧ v = undef)
theorem YV.same {o : Oper} {v : Value} {a a' : Act} (hy : YV P ops C o v a) (he : execOp a'.eval o = execOp a.eval o)
  (hw : Region.wanted o (yielded ops a'.tmps) = Region.wanted o (yielded ops a.tmps)) : YV P ops C o v a' := by
 unfold YV at *; rw [he, hw]; exact hy
theorem YV.wpOp {i : Nat} {o : Oper} {v : Value} {a : Act} {w : World} (hi : ops[i]? = some o) (hy : YV P ops C o v a) (hw : C w) {K : Act → World → Prop} (h : K (a.put o.dst v) w) : wpOp P ops Q i K a w := by
 unfold Go.wpOp; simp only [hi]; rcases hy with ⟨hwa, hv⟩ | ⟨hwa, rfl⟩
 ·simp only [hwa, if_true, Oper.wp, hv w hw, Oper.upon]; exact .inl h
 ·simp only [hwa, Bool.false_eq_true, if_false]; exact h
/-- Whatever order is picked from here on, the class being kept. -/
def anyC (P : Program) (md : Region.Mode) (ops : Array Oper) (C : World → Prop) (Q : Exit → Act → World → Prop) : Nat → Array Bool → Act → World → Prop
 | 0, listed, a, w => C w ∧ Region.ready md ops listed = [] ∧ Q .normal a w
 | fuel + 1, listed, a, w =>
  C w ∧ (Region.ready md ops listed = [] → Q .normal a w) ∧
  ∀ i ∈ Region.ready md ops listed, wpOp P ops Q i (anyC P md ops C Q fuel (listed.setIfInBounds i true)) a w
theorem anyC.any : ∀ {fuel : Nat} {listed : Array Bool} {a : Act} {w : World}, anyC P md ops C Q fuel listed a w → wpAny P md ops Q fuel listed a w
 | 0, _, _, _, h => h.2
 | _ + 1, _, _, _, h => ⟨h.2.1, fun i hi => wpOp_mono (fun _ _ => anyC.any) (h.2.2 i hi)⟩

theorem wpOp_over {j : Nat} {oi oj : Oper} {v : Value} (hj : ops[j]? = some oj) (hap : oi.apart ops oj = true)
  (hsi : ∀ cs b, oi.op ≠ .select cs b) (hsj : ∀ cs b, oj.op ≠ .select cs b)
  (hQ : ∀ c a w, ¬ Q (.panic c) a w) {K : Act → World → Prop} {a : Act} {w : World}
  (hy : YV P ops C oi v a) (h : wpOp P ops Q j K (a.put oi.dst v) w) :
  wpOp P ops Q j (fun a' w' => YV P ops C oi v a' ∧ K (a'.put oi.dst v) w') a w := by
 obtain ⟨h1, h2, h3⟩ := Oper.apart_spec hap; have keep : ∀ (a : Act), YV P ops C oi v a → ∀ u, YV P ops C oi v (a.put oj.dst u) := fun a hy u =>
  hy.same (execOp_put oi hsi a oj.dst u h3) (wanted_put oi a oj.dst u h3)
 have keepD : ∀ d, YV P ops C oi v { a with defers := d :: a.defers } := fun d => hy.same rfl rfl; unfold wpOp at *; simp only [hj] at *; rw [wanted_put oj a oi.dst v h1] at h
 split
 ·rename_i hw
  simp only [hw, if_true] at h; rcases h with h | ⟨hasks, hlets⟩
  case inr => exact .inr ⟨by unfold Oper.asks at *; rw [execOp_put oj hsj a oi.dst v h1] at hasks; exact hasks, hlets⟩
  refine .inl ?_; unfold Oper.wp at *; rw [execOp_put oj hsj a oi.dst v h1] at h
  generalize (execOp a.eval oj).run P w = r at *
  cases r with
  | ok n w' =>
   cases n <;> simp only [Oper.upon] at h ⊢
   case value u => exact ⟨keep a hy u, by rw [← Act.put_comm a v u h2]; exact h⟩
   case skip => exact ⟨keep a hy _, by rw [← Act.put_comm a v undef h2]; exact h⟩
   case defer d =>
    refine ⟨keep _ (keepD d) _, ?_⟩; rw [← Act.put_comm _ v undef h2, ← Act.put_defers]; exact h
   case enter f args =>
    refine Calls.mono h fun e w'' he => ?_
    cases e with
    | returned u => exact ⟨keep a hy u, by rw [← Act.put_comm a v u h2]; exact he⟩
    | panicked c => exact (hQ _ _ _ he).elim
    | outgrown => exact he
   case row row args => exact Rows.mono h fun u w'' he => ⟨keep a hy u, by rw [← Act.put_comm a v u h2]; exact he⟩
  | halt x w' =>
   cases x <;> simp only [Oper.upon] at h ⊢
   case panic u => exact (hQ _ _ _ h).elim
 ·rename_i hw
  simp only [hw] at h; exact ⟨keep a hy _, by rw [← Act.put_comm a v undef h2]; exact h⟩

theorem anyC_first {i : Nat} {oi : Oper} {v : Value} (hi : ops[i]? = some oi) (hsel : ∀ (j : Nat) (o : Oper) cs b, ops[j]? = some o → o.op ≠ .select cs b)
  (hQ : ∀ c a w, ¬ Q (.panic c) a w) :
  ∀ (fuel : Nat) (listed : Array Bool) (a : Act) (w : World),
   (∀ j oj, ops[j]? = some oj → j ≠ i → listed.getD j true = false → (∀ e ∈ oj.after, Region.binds md e = true → e.on ≠ i) → oi.apart ops oj = true) →
   i ∈ Region.ready md ops listed → YV P ops C oi v a →
   anyC P md ops C Q fuel (listed.setIfInBounds i true) (a.put oi.dst v) w → anyC P md ops C Q (fuel + 1) listed a w := by
 intro fuel
 induction fuel with
 | zero =>
  intro listed a w _ hr hy H; refine ⟨H.1, fun h => (by rw [h] at hr; cases hr), fun j hj => ?_⟩
  by_cases hji : j = i
  ·subst hji; exact hy.wpOp hi H.1 H
  ·have := ready_mono hj hji; rw [H.2.1] at this
   cases this
 | succ fuel ih =>
  intro listed a w hfree hr hy H; refine ⟨H.1, fun h => (by rw [h] at hr; cases hr), fun j hj => ?_⟩
  by_cases hji : j = i
  ·subst hji; exact hy.wpOp hi H.1 H
  ·have h1 := H.2.2 j (ready_mono hj hji); obtain ⟨hjun, oj, hoj, hall⟩ := mem_ready.1 hj; have hnot : ∀ e ∈ oj.after, Region.binds md e = true → e.on ≠ i := fun e he hb heq => by
    have h1 := hall e he hb; have h0 := (mem_ready.1 hr).1; rw [heq] at h1; rcases Nat.lt_or_ge i listed.size with h' | h'
    ·simp [h'] at h0 h1; rw [h0] at h1; cases h1
    ·simp [Array.getElem?_eq_none h'] at h1
   have h2 := wpOp_over hoj (hfree j oj hoj hji hjun hnot) (fun cs b => hsel i oi cs b hi) (fun cs b => hsel j oj cs b hoj) hQ hy h1; have hfree' : ∀ k ok, ops[k]? = some ok → k ≠ i → (listed.setIfInBounds j true).getD k true = false →
     (∀ e ∈ ok.after, Region.binds md e = true → e.on ≠ i) → oi.apart ops ok = true := fun k ok hk hki hun hno => by
    refine hfree k ok hk hki ?_ hno
    by_cases hjk : j = k
    ·subst hjk; exact hjun
    ·rw [getD_set_ne true hjk] at hun; exact hun
   refine wpOp_mono (fun a' w' h3 => ih (listed.setIfInBounds j true) a' w' hfree' (ready_mono hr (Ne.symm hji)) h3.1 ?_) h2; rw [Array.setIfInBounds_comm _ _ hji]; exact h3.2
end

section
variable {P : Program} {N : Nm} {w0 : World} {V : Mem} {L0 : List Grp} {Q : Exit → Frm → List Grp → Prop} {f : Frm} {L : List Grp} {ops : Array Oper} {o : Oper} {d : Nat} {v : Value}

/-- Only the way that goes on counts. -/
def onN (Q : Act → World → Prop) : Exit → Act → World → Prop
 | .normal, a, w => Q a w
 | _, _, _ => False
theorem onN_out (Q : Act → World → Prop) : ¬ LetsOut (onN Q) := fun ⟨_, _, h⟩ => h
def drawS (P : Program) (N : Nm) (w0 : World) (V : Mem) (L0 : List Grp) (ops : Array Oper) (Q : Exit → Frm → List Grp → Prop) (fuel : Nat) (listed : List Bool) (f : Frm) (L : List Grp) : Prop :=
 ∀ a w, Rep N f a → SH w0 V w L → anyC P .any ops (fun w => SH w0 V w L0) (onN fun a w => lift N w0 V Q .normal a w) fuel listed.toArray a w
/-- The part of the groups that only is read in the region. -/
theorem s_draw {id : Nat} {l : List Oper} (L0 : List Grp) (hm : P.follows .mixedOrders = true) (h : drawS P N w0 V L0 l.toArray Q l.length (List.replicate l.length false) f L) : wpS P N w0 V (.region id l.toArray true) Q f L := by
 intro a w ha hw; refine wp_mono (wp_region_any (Q := onN fun a w => lift N w0 V Q .normal a w) hm ?_) ?_
 ·have := (h a _ ha (hw.drawn (w.drawn + 1))).any
  simpa [List.toArray_replicate] using this
 ·intro e a w h
  cases e with
  | normal => exact h
  | _ => exact h.elim
theorem d_nil {fuel n m : Nat} {listed : List Bool} (hr : Region.ready .any ops listed.toArray = []) (hs : (L.drop n).take m = L0) (h : Q .normal f L) : drawS P N w0 V L0 ops Q fuel listed f L := by
 intro a w ha hw; have hc : SH w0 V w L0 := hw.sublist (sub_flatten (hs ▸ (List.take_sublist _ _).trans (List.drop_sublist _ _)))
 cases fuel with
 | zero => exact ⟨hc, hr, f, L, ha, hw, h⟩
 | succ n => exact ⟨hc, fun _ => ⟨f, L, ha, hw, h⟩, by rw [hr]; simp⟩
theorem d_val {fuel i : Nat} {listed : List Bool} (hi : ops[i]? = some o) (hs : Region.noSelect ops = true) (hr : (Region.ready .any ops listed.toArray).contains i = true) (hf : Region.free .any ops listed.toArray i = true) (hg : o.guard = none) (hd : o.dst = some d) (hN : Nat.blt d N = true)
  (hy : Yld P f V L0 o v) (h : drawS P N w0 V L0 ops Q fuel (listed.set i true) (upd f d v) L) : drawS P N w0 V L0 ops Q (fuel + 1) listed f L := by
 intro a w ha hw; refine anyC_first (v := v) hi (Region.noSelect_spec hs) (fun _ _ _ h => h) fuel listed.toArray a w (Region.free_spec hi hf) (by simpa using hr) (.inl ⟨by simp [Region.wanted, hg], fun w hc => by rw [ha.eval]; exact hy w0 w hc⟩) ?_; have := h _ w (hd ▸ ha.put hN v) hw
 simpa using this
theorem dv {fuel : Nat} (i : Nat) {listed : List Bool} (hi : ops[i]? = some o) (hd : o.dst = some d) (hy : Yld P f V L0 o v) (h : drawS P N w0 V L0 ops Q fuel (listed.set i true) (upd f d v) L) (hs : Region.noSelect ops = true := by kernel_rfl) (hr : (Region.ready .any ops listed.toArray).contains i = true := by kernel_rfl) (hf : Region.free .any ops listed.toArray i = true := by kernel_rfl) (hg : o.guard = none := by exact rfl) (hN : Nat.blt d N = true := by exact rfl) : drawS P N w0 V L0 ops Q (fuel + 1) listed f L := d_val hi hs hr hf hg hd hN hy h
theorem d_guard_no {fuel i j : Nat} {b b' : Bool} {listed : List Bool} (hi : ops[i]? = some o) (hs : Region.noSelect ops = true) (hr : (Region.ready .any ops listed.toArray).contains i = true) (hf : Region.free .any ops listed.toArray i = true) (hg : o.guard = some (j, b)) (hy : yieldF ops f j = some b') (hne : (b' == b) = false) (hd : o.dst = some d) (hN : Nat.blt d N = true)
  (h : drawS P N w0 V L0 ops Q fuel (listed.set i true) (upd f d undef) L) : drawS P N w0 V L0 ops Q (fuel + 1) listed f L := by
 intro a w ha hw; have hy' := yieldF_eq ha hy; have hne' : b' ≠ b := by simpa using hne
 refine anyC_first (v := undef) hi (Region.noSelect_spec hs) (fun _ _ _ h => h) fuel listed.toArray a w (Region.free_spec hi hf) (by simpa using hr) (.inr ⟨by simp [Region.wanted, hg, hy', hne'], rfl⟩) ?_; have := h _ w (hd ▸ ha.put hN undef) hw
 simpa using this
theorem d_val_g {fuel i j : Nat} {b : Bool} {listed : List Bool} (hi : ops[i]? = some o) (hs : Region.noSelect ops = true) (hr : (Region.ready .any ops listed.toArray).contains i = true) (hf : Region.free .any ops listed.toArray i = true) (hg : o.guard = some (j, b)) (hyg : yieldF ops f j = some b) (hd : o.dst = some d) (hN : Nat.blt d N = true)
  (hy : Yld P f V L0 o v) (h : drawS P N w0 V L0 ops Q fuel (listed.set i true) (upd f d v) L) : drawS P N w0 V L0 ops Q (fuel + 1) listed f L := by
 intro a w ha hw; have hy' := yieldF_eq ha hyg; refine anyC_first (v := v) hi (Region.noSelect_spec hs) (fun _ _ _ h => h) fuel listed.toArray a w (Region.free_spec hi hf) (by simpa using hr) (.inl ⟨by simp [Region.wanted, hg, hy'], fun w hc => by rw [ha.eval]; exact hy w0 w hc⟩) ?_; have := h _ w (hd ▸ ha.put hN v) hw
 simpa using this
theorem d_split {fuel i : Nat} {listed : List Bool} {p : Prop} [Decidable p] (hi : ops[i]? = some o) (hs : Region.noSelect ops = true) (hr : (Region.ready .any ops listed.toArray).contains i = true) (hf : Region.free .any ops listed.toArray i = true) (hg : o.guard = none) (hd : o.dst = some d) (hN : Nat.blt d N = true)
  (hy : Yld P f V L0 o (.bool (decide p))) (ht : p → drawS P N w0 V L0 ops Q fuel (listed.set i true) (upd f d (.bool true)) L) (hff : ¬ p → drawS P N w0 V L0 ops Q fuel (listed.set i true) (upd f d (.bool false)) L) : drawS P N w0 V L0 ops Q (fuel + 1) listed f L := by
 by_cases hp : p
 ·exact d_val hi hs hr hf hg hd hN (hy.tt hp) (ht hp)
 ·exact d_val hi hs hr hf hg hd hN (hy.ff hp) (hff hp)
theorem d_split_g {fuel i j : Nat} {b : Bool} {listed : List Bool} {p : Prop} [Decidable p] (hi : ops[i]? = some o) (hs : Region.noSelect ops = true) (hr : (Region.ready .any ops listed.toArray).contains i = true) (hf : Region.free .any ops listed.toArray i = true) (hg : o.guard = some (j, b)) (hyg : yieldF ops f j = some b) (hd : o.dst = some d) (hN : Nat.blt d N = true)
  (hy : Yld P f V L0 o (.bool (decide p))) (ht : p → drawS P N w0 V L0 ops Q fuel (listed.set i true) (upd f d (.bool true)) L) (hff : ¬ p → drawS P N w0 V L0 ops Q fuel (listed.set i true) (upd f d (.bool false)) L) : drawS P N w0 V L0 ops Q (fuel + 1) listed f L := by
 by_cases hp : p
 ·exact d_val_g hi hs hr hf hg hyg hd hN (hy.tt hp) (ht hp)
 ·exact d_val_g hi hs hr hf hg hyg hd hN (hy.ff hp) (hff hp)
theorem s_drawn {id : Nat} {l : List Oper} (n : Nat) (hm : P.follows .mixedOrders = true) (h : drawS P N w0 V (L.drop n) l.toArray Q l.length (List.replicate l.length false) f L) : wpS P N w0 V (.region id l.toArray true) Q f L :=
 s_draw (L.drop n) hm h
theorem s_pull {c : Code} (j : Nat) (h : wpS P N w0 V c Q f (pull j L)) : wpS P N w0 V c Q f L :=
 s_sub _ (fun _ hw => hw.perm (pull_perm j L)) h
/-- What follows an operation that changes memory. -/
def onlyS (K : Frm → List Grp → Prop) : Exit → Frm → List Grp → Prop
 | .normal, f, L => K f L
 | _, _, _ => False
theorem d_eff {fuel k n m : Nat} {listed : List Bool} (hk : ops[k]? = some o) (hr : Region.ready .any ops listed.toArray = [k]) (hs : (L.drop n).take m = L0)
  (h : opsS P N w0 V ops (onlyS fun f' L' => drawS P N w0 V L0 ops Q fuel (listed.set k true) f' L') [o] f L) : drawS P N w0 V L0 ops Q (fuel + 1) listed f L := by
 intro a w ha hw; have hc : SH w0 V w L0 := hw.sublist (sub_flatten (hs ▸ (List.take_sublist _ _).trans (List.drop_sublist _ _))); refine ⟨hc, ?_, ?_⟩
 ·intro h0; rw [hr] at h0; cases h0
 intro i hi; rw [hr] at hi; have hik : i = k := by simpa using hi
 subst hik; have h1 := h a w ha hw; have key : ∀ (K : Act → World → Prop), (∀ a' w', lift N w0 V (onlyS fun f' L' => drawS P N w0 V L0 ops Q fuel (listed.set i true) f' L') .normal a' w' → K a' w') → wpOp P ops (onN fun a w => lift N w0 V Q .normal a w) i K a w := by
  intro K hK; unfold wpOp; simp only [hk]; unfold wpList at h1
  split at h1
  ·rename_i hwa
   rw [if_pos hwa]; rcases h1 with h1 | ⟨_, a', w', f', L', _, _, hF⟩
   ·refine .inl ?_; unfold Oper.wp at h1 ⊢
    generalize (execOp a.eval o).run P w = r at h1
    cases r with
    | ok nx w' =>
     cases nx <;> simp only [Oper.upon] at h1 ⊢
     case value u => exact hK _ _ h1
     case skip => exact hK _ _ h1
     case defer dd => exact hK _ _ h1
     case enter ff args =>
      refine Calls.mono h1 fun e w'' he => ?_
      cases e with
      | returned u => exact hK _ _ he
      | panicked c => obtain ⟨f', L', _, _, hF⟩ := he; exact hF.elim
      | outgrown => obtain ⟨a', w', f', L', _, _, hF⟩ := he; exact hF.elim
     case row row args => exact Rows.mono h1 fun u w'' he => hK _ _ he
    | halt x w' =>
     cases x <;> simp only [Oper.upon] at h1 ⊢
     case panic u => obtain ⟨f', L', _, _, hF⟩ := h1; exact hF.elim
   ·exact hF.elim
  ·rename_i hwa
   rw [if_neg hwa]; exact hK _ _ h1
 refine key _ ?_; rintro a' w' ⟨f', L', h1, h2, h3⟩; have := h3 a' w' h1 h2
 simpa using this
end
end Go.Proofs.YtlkajdcgdoijjaaGreatDoor.K
end
section
namespace Go.Proofs.YtlkajdcgdoijjaaGreatDoor.K
open Go.ChangeShapes Go.WideShapes Go.ChangeAt Go.RowKit Go.Deep

def memOf (w : World) : Mem := fun b o => w.heap[b]? = some o
theorem sh_start (w : World) : SH w (memOf w) w [] := ⟨rfl, rfl, rfl, Nat.le_refl _, fun _ _ h => h, by simp, by simp, by simp⟩
theorem SH.below {w w' : World} {L : List Grp} (h : SH w (memOf w) w' L) : Below w.heap.size w w' :=
 ⟨h.os, h.tape, h.output, h.size, fun k hk => by rw [h.imm k w.heap[k] (by simp [memOf, hk])]; simp [hk]⟩
/-- A law's contract, as the row asks for it. -/
theorem law_calls {P : Program} {fid : FuncId} {args : Array Value} {W : World} (h : CallS P fid args (memOf W) [] (fun r _ => r = .bool true)) : Calls P fid args W fun e w' => e = .returned (.bool true) ∧ Below W.heap.size W w' :=
 (h W W (sh_start W)).mono fun _ _ ⟨_, _, h1, h2, h3⟩ => ⟨h3 ▸ h1, h2.below⟩

section
variable {H : Type} {enc : TypeId × Value → H} {P : Program} {w : World} {base : Nat} {spare : Nat → Bool} {held : Bool}
theorem cel_of_cell {a : Addr} {c : Value} (h : w.cell? a = some c) : Cel (memOf w) [] (some a) c := by
 unfold World.cell? at h
 split at h
 ·rename_i arr T fr hb
  split at h
  ·cases h
  ·rename_i hs
   exact ⟨a, arr, T, fr, rfl, by simpa using hs, .inl hb, h⟩
 ·cases h
/-- A slice that came in, of elements of a fixed number of cells. -/
theorem open_elems {α : Type} [Inhabited α] (en : α → List Value) (R : α → Prop) {sz : Nat} (hlen : ∀ x, (en x).length = sz) (hpos : 0 < sz) {t e : TypeId} {fuel : Nat} {cs : List Value} {x : DataW H × List MemPlace} (ht : P.underlying t = some (.slice e)) (hsz : P.cellsOf e = sz)
  (hel : ∀ n cs x, DataW.trod enc P w base spare held n e cs = some x → ∃ a, cs = en a ∧ R a) (h : DataW.trod enc P w base spare held fuel t cs = some x) :
  ∃ (A : Option Addr) (len cap : Nat) (xs : List α), cs = [.slice A len cap] ∧ xs.length = len ∧ len ≤ cap ∧ cap ≤ maxLen ∧ Cels (memOf w) [] A (xs.flatMap en) ∧ (∀ a ∈ xs, R a) ∧ (len = 0 ∨ ∃ el sp, x.1 = .slice el sp ∧ el.length = len) := by
 rcases open_slice ht h with ⟨rfl, rfl⟩ | ⟨a, len, cap, m, n, D, Pl, rfl, _, hl, hm, hme, rfl, hi⟩
 ·exact ⟨none, 0, 0, [], rfl, rfl, Nat.le_refl _, Nat.zero_le _, Cels.nil, by simp, .inl rfl⟩
 ·have hlm : len ≤ m := by rw [hme]; split <;> omega
  have hex : ∀ i, i < len → ∃ b : α, R b ∧ ∀ j, j < sz → w.cell? (a.add (i * sz + j)) = (en b)[j]? := by
   intro i hil; obtain ⟨cs', h1, h2⟩ := hi i (by omega); obtain ⟨b, rfl, hb⟩ := hel _ _ _ h2; obtain ⟨_, h4, h5⟩ := World.cells?_some h1; refine ⟨b, hb, fun j hj => ?_⟩; have := h5 j (by rw [hsz]; exact hj); rw [hsz, Go.Deep.add_add] at this; exact this
  obtain ⟨X, hX⟩ := choose_lt hex; have hg : ∀ i, i < len → ((List.range len).map X).getD i default = X i := fun i hi => by simp [hi]
  refine ⟨some a, len, cap, (List.range len).map X, rfl, by simp, hl, hm, ?_, ?_, .inr ⟨_, _, rfl, by simp⟩⟩
  ·intro q c hq; have hql : q < len * sz := by
    have := (List.getElem?_eq_some_iff.1 hq).1; rw [flat_len hlen] at this
    simpa using this
   have hi1 : q / sz < len := Nat.div_lt_of_lt_mul (by rw [Nat.mul_comm]; exact hql); have hj1 : q % sz < sz := Nat.mod_lt _ hpos; have hq1 : q / sz * sz + q % sz = q := by rw [Nat.mul_comm]; exact Nat.div_add_mod q sz
   have h1 := flat_at hlen ((List.range len).map X) (q / sz) (q % sz) (by simpa using hi1) hj1; rw [hq1, hq, hg _ hi1] at h1; have h2 := (hX _ hi1).2 _ hj1; rw [hq1, ← h1] at h2; exact cel_of_cell h2
  ·intro b hb; obtain ⟨i, hi', rfl⟩ := List.mem_map.1 hb; exact (hX i (by simpa using hi')).1
theorem el_int {k : IntKind} {e : TypeId} (he : P.underlying e = some (.int k)) (n : Nat) (cs : List Value) (x : DataW H × List MemPlace) (h : DataW.trod enc P w base spare held n e cs = some x) : ∃ a : Int, cs = [.int k a] ∧ inK k a := by
 obtain ⟨m, rfl, _, hw⟩ := DataW.trod_int he h; refine ⟨m, rfl, ?_⟩
 cases k <;> simp [Lit.wf, IntKind.min, IntKind.max, IntKind.signed, IntKind.bits] at hw <;> simp only [inK] <;> omega
theorem flat_one {k : IntKind} (xs : List Int) : xs.flatMap (fun a => [Value.int k a]) = xs.map (.int k) := by
 induction xs with
 | nil => rfl
 | cons x xs ih => rw [List.flatMap_cons, ih]; rfl
/-- The reach of a slice. -/
theorem reach {t e : TypeId} {ts : List TypeId} {ds : List (DataW H)} (hs : (DataW.weightsEach P ts ds).all (· ≤ reachBytes) = true) (hu : P.underlying t = some (.slice e)) {j len bytes : Nat} {d : DataW H} (ht : ts[j]? = some t) (hd : ds[j]? = some d) (hb : P.bytesOf e = bytes) (h : len = 0 ∨ ∃ el sp, d = .slice el sp ∧ el.length = len) : len * bytes ≤ 140737488351232 := by
 rcases h with rfl | ⟨el, sp, rfl, rfl⟩
 ·simp
 ·have := sized_slice hs ht hd hu; rw [hb, Nat.add_mul] at this; simp only [reachBytes] at this; omega
end
end Go.Proofs.YtlkajdcgdoijjaaGreatDoor.K
end
section
namespace Go.Proofs.YtlkajdcgdoijjaaGreatDoor.K
open Go.RowKit

section
variable {P : Program} {N : Nm} {w0 : World} {V : Mem} {Q : Exit → Frm → List Grp → Prop} {f : Frm} {L : List Grp} {ops : Array Oper} {rest : List Oper} {o : Oper} {d : Nat} {x y : Operand} {v : Value}
variable {ty yt : TypeId} {ps : String} {af : Array Edge} {g : Option (Nat × Bool)}
theorem y_eql_nil {t e : TypeId} {A : Option Addr} {n c : Nat} (ht : P.underlying t = some (.slice e)) (hx : evF f x = .slice A n c) (hy : evF f y = .slice none 0 0) :
  Yld P f V L ⟨some d, .binOp .eql t x y yt, ty, ps, af, g⟩ (.bool (decide (A = none))) := fun _ w _ => by
 simp only [execOp, hx, hy, Sem.run_bind, eqGuard]
 cases A <;> simp [binOp, run_equal_slice_nil w t e _ n c ht]
theorem y_neq_bool {t : TypeId} {a b : Bool} (ht : P.underlying t = some .bool) (hx : evF f x = .bool a) (hy : evF f y = .bool b) :
  Yld P f V L ⟨some d, .binOp .neq t x y yt, ty, ps, af, g⟩ (.bool (decide (a ≠ b))) := fun _ w _ => by
 simp only [execOp, hx, hy, Sem.run_bind, eqGuard]
 cases a <;> cases b <;> simp [binOp, run_equal_bool w t _ _ ht]
end
theorem CallS.upto {P : Program} {fid : FuncId} {args : Array Value} {V : Mem} {L : List Grp} {R R' : Value → List Grp → Prop} (h : CallS P fid args V L R) (hr : ∀ v L', R v L' → ∃ L'', R' v L'' ∧ Sub L'' L') : CallS P fid args V L R' :=
 fun w0 w hw => (h w0 w hw).mono fun _ _ ⟨v, L', h1, h2, h3⟩ => by
  obtain ⟨L'', h4, h5⟩ := hr v L' h3; exact ⟨v, L'', h1, h5 _ _ _ h2, h4⟩
/-- Where a result is read. -/
inductive RV (P : Program) (V : Mem) (f : Frm) (L : List Grp) : ResultVar → Value → Prop
 | tmp {t : Nat} {v : Value} (h : f t = v) : RV P V f L (.tmp t) v
 | cell {t T : Nat} {A : Option Addr} {v : Value} (h : f t = .pointer A) (ht : ∀ w, (isAgg T).run P w = .ok false w) (hc : Cel V L A v) : RV P V f L (.cell t T) v
 | cells {t T n : Nat} {A : Option Addr} {cs : List Value} (h : f t = .pointer A) (ht : ∀ w, (isAgg T).run P w = .ok true w) (hz : ∀ w, (sizeOf T).run P w = .ok n w) (hn : cs.length = n) (hA : A.isSome = true) (hc : Cels V L A cs) : RV P V f L (.cell t T) (.agg cs.toArray)
def rv (tmps : Array Value) : ResultVar → Sem Value
 | .tmp t => pure (tmps.getD t undef)
 | .cell a t => do loadVar t (← asAddr (tmps.getD a undef))
theorem RV.run {P : Program} {V : Mem} {f : Frm} {L : List Grp} {r : ResultVar} {v : Value} (h : RV P V f L r v) {w0 w : World} (hw : SH w0 V w L) {tmps : Array Value} (ht : ∀ i, tmps.getD i undef = f i) : (rv tmps r).run P w = .ok v w := by
 cases h with
 | tmp h => show Result.ok _ _ = _; rw [ht, h]
 | cell h h1 hc =>
  obtain ⟨a, rfl⟩ := Option.isSome_iff_exists.1 hc.some; simp only [rv, ht, h, asAddr, Sem.run_bind, Sem.run_pure, Result.andThen_ok, loadVar, h1, Bool.false_eq_true, if_false, run_load, hc.cell hw]
 | cells h h1 hz hn hA hc =>
  obtain ⟨a, rfl⟩ := Option.isSome_iff_exists.1 hA; have hr := run_loadCells_list (P := P) (w := w) a _ (fun j v hj => (hc j v hj).cell hw); simp only [rv, ht, h, asAddr, Sem.run_bind, Sem.run_pure, Result.andThen_ok, loadVar, h1, if_true, hz]; rw [← hn, hr]
  rfl
theorem results_rv (fn : Func) (tmps : Array Value) : results fn tmps = (do let vs ← fn.results.mapM (rv tmps); pure (if h : vs.size = 1 then vs[0] else .tuple vs)) := by
 unfold results
 congr 2
theorem resv1 {P : Program} {fn : Func} {V : Mem} {f : Frm} {L : List Grp} {r : ResultVar} {v : Value} (h : fn.results = #[r]) (hr : RV P V f L r v) : Res P fn V f L v := fun N a w w0 ha hw => by
 rw [results_rv, h]; simp [hr.run hw ha.get]
theorem resv2 {P : Program} {fn : Func} {V : Mem} {f : Frm} {L : List Grp} {r s : ResultVar} {v u : Value} (h : fn.results = #[r, s]) (hr : RV P V f L r v) (hs : RV P V f L s u) : Res P fn V f L (.tuple #[v, u]) := fun N a w w0 ha hw => by
 rw [results_rv, h]; simp [hr.run hw ha.get, hs.run hw ha.get]
theorem resv3 {P : Program} {fn : Func} {V : Mem} {f : Frm} {L : List Grp} {r s q : ResultVar} {v u x : Value} (h : fn.results = #[r, s, q]) (hr : RV P V f L r v) (hs : RV P V f L s u) (hq : RV P V f L q x) : Res P fn V f L (.tuple #[v, u, x]) := fun N a w w0 ha hw => by
 rw [results_rv, h]; simp [hr.run hw ha.get, hs.run hw ha.get, hq.run hw ha.get]
theorem sub_empty : Sub [[]] [] := fun _ _ _ h => h.perm (by simp)
end Go.Proofs.YtlkajdcgdoijjaaGreatDoor.K
end
section
namespace Go.Proofs.YtlkajdcgdoijjaaGreatDoor.K
open Go.RowKit
section
variable {P : Program} {ops : Array Oper} {md : Region.Mode} {C : World → Prop} {Q : Exit → Act → World → Prop}
variable {P : Program} {N : Nm} {w0 : World} {V : Mem} {L0 : List Grp} {Q : Exit → Frm → List Grp → Prop} {f : Frm} {L : List Grp} {ops : Array Oper} {o : Oper} {d : Nat} {v : Value}
theorem d_effs {fuel n m k : Nat} {ks : List Nat} {listed : List Bool} (hr : Region.ready .any ops listed.toArray = k :: ks) (hs : (L.drop n).take m = L0)
  (h : ∀ i ∈ k :: ks, ∃ o, ops[i]? = some o ∧ opsS P N w0 V ops (onlyS fun f' L' => drawS P N w0 V L0 ops Q fuel (listed.set i true) f' L') [o] f L) : drawS P N w0 V L0 ops Q (fuel + 1) listed f L := by
 intro a w ha hw; have hc : SH w0 V w L0 := hw.sublist (sub_flatten (hs ▸ (List.take_sublist _ _).trans (List.drop_sublist _ _))); refine ⟨hc, ?_, ?_⟩
 ·intro h0; rw [hr] at h0; cases h0
 intro i hi; rw [hr] at hi; obtain ⟨o, hk, h0⟩ := h i hi; have h1 := h0 a w ha hw; have key : ∀ (K : Act → World → Prop), (∀ a' w', lift N w0 V (onlyS fun f' L' => drawS P N w0 V L0 ops Q fuel (listed.set i true) f' L') .normal a' w' → K a' w') → wpOp P ops (onN fun a w => lift N w0 V Q .normal a w) i K a w := by
  intro K hK; unfold wpOp; simp only [hk]; unfold wpList at h1
  split at h1
  ·rename_i hwa
   rw [if_pos hwa]; rcases h1 with h1 | ⟨_, a', w', f', L', _, _, hF⟩
   ·refine .inl ?_; unfold Oper.wp at h1 ⊢
    generalize (execOp a.eval o).run P w = r at h1
    cases r with
    | ok nx w' =>
     cases nx <;> simp only [Oper.upon] at h1 ⊢
     case value u => exact hK _ _ h1
     case skip => exact hK _ _ h1
     case defer dd => exact hK _ _ h1
     case enter ff args =>
      refine Calls.mono h1 fun e w'' he => ?_
      cases e with
      | returned u => exact hK _ _ he
      | panicked c => obtain ⟨f', L', _, _, hF⟩ := he; exact hF.elim
      | outgrown => obtain ⟨a', w', f', L', _, _, hF⟩ := he; exact hF.elim
     case row row args => exact Rows.mono h1 fun u w'' he => hK _ _ he
    | halt x w' =>
     cases x <;> simp only [Oper.upon] at h1 ⊢
     case panic u => obtain ⟨f', L', _, _, hF⟩ := h1; exact hF.elim
   ·exact hF.elim
  ·rename_i hwa
   rw [if_neg hwa]; exact hK _ _ h1
 refine key _ ?_; rintro a' w' ⟨f', L', h1, h2, h3⟩; have := h3 a' w' h1 h2
 simpa using this
theorem d_eff2 {fuel k k' n m : Nat} {listed : List Bool} {o o' : Oper} (hk : ops[k]? = some o) (hk' : ops[k']? = some o') (hr : Region.ready .any ops listed.toArray = [k, k']) (hs : (L.drop n).take m = L0)
  (h : opsS P N w0 V ops (onlyS fun f' L' => drawS P N w0 V L0 ops Q fuel (listed.set k true) f' L') [o] f L) (h' : opsS P N w0 V ops (onlyS fun f' L' => drawS P N w0 V L0 ops Q fuel (listed.set k' true) f' L') [o'] f L) : drawS P N w0 V L0 ops Q (fuel + 1) listed f L :=
 d_effs hr hs fun i hi => by
  rcases List.mem_cons.1 hi with rfl | hi
  ·exact ⟨_, hk, h⟩
  ·obtain rfl : i = k' := by simpa using hi
   exact ⟨_, hk', h'⟩
theorem sub_none {L : List Grp} : Sub [[]] L := fun _ _ _ h => h.sublist (by simp)
theorem o_fnv' (n : Nat) {rest : List Oper} {x : Operand} {ty : TypeId} {ps : String} {af : Array Edge} {fid : FuncId} {ts : Array TypeId} {xs : List Operand} {vs cap us : List Value} {post : Value → List Grp → Prop} (hN : Nat.blt d N = true) (hc : ∀ args w, (callFunc fid args).run P w = .ok (.enter fid args) w)
  (hf : evF f x = .func (.func fid) #[] cap.toArray) (hx : xs.map (evF f) = vs) (hu : vs ++ cap = us) (hcon : CallS P fid us.toArray (ext V (L.drop n)) (L.take n) post) (h : ∀ v L1, post v L1 → opsS P N w0 V ops Q rest (upd f d v) (L1 ++ L.drop n)) :
  opsS P N w0 V ops Q (⟨some d, .call { callee := .value x, args := xs.toArray, argTypes := ts }, ty, ps, af, none⟩ :: rest) f L := by
 subst hu; exact o_fnv n hN hc hcon hf hx h
theorem y_func' {ty : TypeId} {ps : String} {af : Array Edge} {g : Option (Nat × Bool)} {fn : Fn} {xs ys : List Operand} {a b : List Value} (ha : xs.map (evF f) = a) (hb : ys.map (evF f) = b) : Yld P f V L ⟨some d, .makeFunc fn xs.toArray ys.toArray, ty, ps, af, g⟩ (.func fn a.toArray b.toArray) :=
 y_func (by rw [List.map_toArray, ha]) (by rw [List.map_toArray, hb])
end
theorem os_eq {A : Option Addr} {n c : Nat} {T : TypeId} {sz : Nat} {E : Grp} {cs ds : List Value} (h : OS A n c T sz cs E) (e : cs = ds) : OS A n c T sz ds E := e ▸ h
end Go.Proofs.YtlkajdcgdoijjaaGreatDoor.K
end
section
namespace Go.Proofs.YtlkajdcgdoijjaaGreatDoor.K
open Go.RowKit
section
variable {P : Program} {N : Nm} {w0 : World} {V : Mem} {Q : Exit → Frm → List Grp → Prop} {f : Frm} {L : List Grp} {ops : Array Oper} {rest : List Oper} {o : Oper} {d : Nat} {x y : Operand} {v : Value}
variable {ty yt : TypeId} {ps : String} {af : Array Edge} {g : Option (Nat × Bool)}
theorem yieldF_none {N : Nm} {f : Frm} {a : Act} (ha : Rep N f a) {ops : Array Oper} {j : Nat} (h : yieldF ops f j = none) : yielded ops a.tmps j = none := by
 unfold yieldF at h; unfold yielded
 cases hd : (ops[j]?).bind (·.dst) with
 | none => rfl
 | some d =>
  rw [hd] at h; simp only at h; have hg := ha.get d; simp only [Option.bind_some]
  cases ht : a.tmps[d]? with
  | none => rfl
  | some v =>
   have : f d = v := by rw [← hg]; simp [Array.getD_eq_getD_getElem?, ht]
   rw [this] at h
   cases v <;> first | rfl | (simp at h)
theorem o_guard_un {j : Nat} {b : Bool} {d : Nat} (hg : o.guard = some (j, b)) (hy : yieldF ops f j = none) (hd : o.dst = some d) (hN : Nat.blt d N = true) (h : opsS P N w0 V ops Q rest (upd f d undef) L) : opsS P N w0 V ops Q (o :: rest) f L := by
 intro a w ha hw; have hy' := yieldF_none ha hy; unfold wpList; rw [if_neg (by simp [Region.wanted, hg, hy']), hd]; exact h _ _ (ha.put hN undef) hw
theorem o_make {t e : TypeId} {i : TypeInfo} {z : Value} {sz bytes n : Nat} {k k' : IntKind} (hN : Nat.blt d N = true) (ht : P.underlying t = some (.slice e)) (hi : P.info? e = some i) (hz : i.zero = some z) (hsz : i.size = sz) (hby : i.bytes = bytes)
  (hx : evF f x = .int k n) (hy : evF f y = .int k' n) (hb : n ≤ 140737488355328 ∧ bytes * n ≤ 140737488355328)
  (h : ∀ A E, OS A n n e sz (madeCells z.cells (n * sz)).toList E → A.isSome = true → opsS P N w0 V ops Q rest (upd f d (.slice A n n)) (L ++ [E])) :
  opsS P N w0 V ops Q (⟨some d, .makeSlice t x y, ty, ps, af, none⟩ :: rest) f L := by
 subst hsz hby; refine o_effE (d := d) (fun v L' => ∃ A E, v = .slice A n n ∧ L' = L ++ [E] ∧ OS A n n e i.size (madeCells z.cells (n * i.size)).toList E ∧ A.isSome = true) rfl rfl hN (fun w hw => ?_) ?_
 ·have hr := run_make w t e i z ht hi hz k k' n n (by omega) (Int.le_refl _) (by omega) (by omega); refine ⟨_, _, _, ?_, hw.alloc _, _, _, rfl, rfl, ⟨by simp [size_madeCells], Nat.le_refl _, by unfold maxLen; omega, .inr ⟨w.heap.size, [], [], [], rfl, by simp; rfl, by simp [size_madeCells]⟩⟩, rfl⟩; simp only [execOp, hx, hy, Sem.run_bind, hr, Result.andThen_ok, Sem.run_pure, Int.toNat_natCast]
  rfl
 ·rintro v L' ⟨A, E, rfl, rfl, h1, h2⟩; exact h A E h1 h2
theorem o_makeMap {t : TypeId} (hN : Nat.blt d N = true) (h : ∀ b, opsS P N w0 V ops Q rest (upd f d (.map (some b))) (L ++ [[(b, .map #[] 0)]])) :
  opsS P N w0 V ops Q (⟨some d, .makeMap t none, ty, ps, af, none⟩ :: rest) f L := by
 refine o_effE (d := d) (fun v L' => ∃ b, v = .map (some b) ∧ L' = L ++ [[(b, .map #[] 0)]]) rfl rfl hN (fun w hw => ?_) ?_
 ·refine ⟨_, _, _, ?_, hw.alloc _, w.heap.size, rfl, rfl⟩; simp [execOp, Instr.makeMap]
 ·rintro v L' ⟨b, rfl, rfl⟩; exact h b
theorem made_one (v : Value) (n : Nat) : (madeCells #[v] (n * 1)).toList = List.replicate n v := by
 unfold madeCells
 apply List.ext_getElem
 ·simp
 ·intro i h1 h2; simp [Nat.mod_one]
theorem os_made_int {A : Option Addr} {n : Nat} {e : TypeId} {k : IntKind} {E : Grp} (h : OS A n n e 1 (madeCells (Value.int k 0).cells (n * 1)).toList E) : OS A n n e 1 ((List.replicate n (0 : Int)).map (.int k)) E := by
 rw [show (Value.int k 0).cells = #[.int k 0] from rfl, made_one] at h
 rwa [List.map_replicate]
end
end Go.Proofs.YtlkajdcgdoijjaaGreatDoor.K
end
section
namespace Go.Proofs.YtlkajdcgdoijjaaGreatDoor.K
open Go.RowKit
section
variable {P : Program} {N : Nm} {w0 : World} {V : Mem} {Q : Exit → Frm → List Grp → Prop} {f : Frm} {L : List Grp} {ops : Array Oper} {rest : List Oper} {o : Oper} {d : Nat} {x y : Operand} {v : Value}
variable {ty yt : TypeId} {ps : String} {af : Array Edge} {g : Option (Nat × Bool)}
theorem s_norm {c : Code} (L' : List Grp) (hs : L = L') (h : wpS P N w0 V c Q f L') : wpS P N w0 V c Q f L := hs ▸ h
theorem sub_flat {L : List Grp} : Sub [L.flatten] L := fun _ _ _ h => h.sublist (by simp)
end
end Go.Proofs.YtlkajdcgdoijjaaGreatDoor.K
end
section
namespace Go.Proofs.YtlkajdcgdoijjaaGreatDoor.K
open Go.ChangeShapes Go.WideShapes Go.ChangeAt Go.RowKit Go.Deep

/-- What is asked of a datum that is read, and goes down to its parts: slices within reach; where 'b' is not 0, of at most 'b' elements. -/
structure Cnd {H : Type} (P : Program) (b : Nat) (Cn : TypeId → DataW H → Prop) : Prop where
 slice : ∀ t e el sp, P.underlying t = some (.slice e) → Cn t (.slice el sp) → el.length * P.bytesOf e ≤ reachBytes ∧ (0 < b → el.length ≤ b) ∧ ∀ d ∈ el, Cn e d
 struct : ∀ t fs parts, P.underlying t = some (.struct fs) → Cn t (.agg parts) → ∀ (j : Nat) (f : Field) (d : DataW H), fs[j]? = some f → parts[j]? = some d → Cn f.type d
section
variable {H : Type}
theorem wAll {P : Program} {e : TypeId} {d : DataW H} : ∀ {l : List (DataW H)}, d ∈ l → ∀ n ∈ d.weights P e, n ∈ DataW.weightsAll P e l
 | [], h, _, _ => by cases h
 | x :: r, h, n, hn => by
  simp only [DataW.weightsAll, List.mem_append]; rcases List.mem_cons.1 h with rfl | h
  ·exact .inl hn
  ·exact .inr (wAll h n hn)
theorem wEach {P : Program} : ∀ {ts : List TypeId} {ds : List (DataW H)} {j : Nat} {t : TypeId} {d : DataW H}, ts[j]? = some t → ds[j]? = some d → ∀ n ∈ d.weights P t, n ∈ DataW.weightsEach P ts ds
 | [], _, j, _, _, ht, _, _, _ => by simp at ht
 | _ :: _, [], j, _, _, _, hd, _, _ => by simp at hd
 | t :: ts, d :: ds, 0, _, _, ht, hd, n, hn => by
  simp only [List.getElem?_cons_zero, Option.some.injEq] at ht hd; subst ht hd; simp only [DataW.weightsEach, List.mem_append]; exact .inl hn
 | t :: ts, d :: ds, j + 1, _, _, ht, hd, n, hn => by
  simp only [List.getElem?_cons_succ] at ht hd; simp only [DataW.weightsEach, List.mem_append]; exact .inr (wEach ht hd n hn)
def cnW (P : Program) (t : TypeId) (d : DataW H) : Prop := ∀ n ∈ d.weights P t, n ≤ reachBytes
theorem cnd_w (P : Program) : Cnd P 0 (cnW (H := H) P) := by
 refine ⟨fun t e el sp ht h => ⟨?_, fun h0 => absurd h0 (Nat.lt_irrefl 0), fun d hd n hn => h n ?_⟩, fun t fs parts ht h j f d hf hd n hn => h n ?_⟩
 ·have := h ((el.length + sp.length) * P.bytesOf e) (by simp [DataW.weights, ht]); rw [Nat.add_mul] at this; omega
 ·simp only [DataW.weights, ht, List.mem_cons, List.mem_append]; exact .inr (.inl (wAll hd n hn))
 ·simp only [DataW.weights, ht]; exact wEach (j := j) (by simp [hf]) hd n hn
theorem bulk_one (d : DataW H) : 1 ≤ Rows.uptoBulk d := by
 cases d with
 | lit l => cases l <;> simp [Rows.uptoBulk]
 | nil => simp [Rows.uptoBulk]
 | ptr d => simp [Rows.uptoBulk]
 | slice elems spare => simp [Rows.uptoBulk]
 | agg parts => simp [Rows.uptoBulk]
 | iface t d => simp [Rows.uptoBulk]
 | map entries => simp [Rows.uptoBulk]
 | held h => simp [Rows.uptoBulk]
theorem bulk_part {d : DataW H} : ∀ {l : List (DataW H)}, d ∈ l → Rows.uptoBulk d ≤ Rows.uptoBulkAll l
 | [], h => by cases h
 | x :: r, h => by
  simp only [Rows.uptoBulkAll]; rcases List.mem_cons.1 h with rfl | h
  ·omega
  ·have := bulk_part h; omega
def cnB (P : Program) (b : Nat) (t : TypeId) (d : DataW H) : Prop := cnW P t d ∧ Rows.uptoBulk d ≤ b
theorem cnw_of {P : Program} {ts : List TypeId} {ds : List (DataW H)} (hs : (DataW.weightsEach P ts ds).all (· ≤ reachBytes) = true) {j : Nat} {t : TypeId} {d : DataW H} (ht : ts[j]? = some t) (hd : ds[j]? = some d) : cnW P t d := fun n hn => by
 have := List.all_eq_true.1 hs n (wEach ht hd n hn)
 simpa using this
theorem cnb_of {P : Program} {ts : List TypeId} {ds ds' : List (DataW H)} (hs : (DataW.weightsEach P ts ds).all (· ≤ reachBytes) = true) (hk : Rows.uptoSmall H ds' = true) {j : Nat} {t : TypeId} {d : DataW H} (ht : ts[j]? = some t) (hd : ds[j]? = some d) (hd' : d ∈ ds') : cnB P 1048576 t d :=
 ⟨cnw_of hs ht hd, by
  have hb : Rows.uptoBulkAll ds' ≤ 1048576 := of_decide_eq_true hk; have := bulk_part hd'; omega⟩
end
/-- A slice and its elements. -/
structure SR (α : Type) where
 A : Option Addr
 n : Nat
 c : Nat
 xs : List α
instance {α : Type} : Inhabited (SR α) := ⟨⟨none, 0, 0, []⟩⟩
def encS {α : Type} (q : SR α) : List Value := [.slice q.A q.n q.c]
/-- A slice lies in memory as it says. -/
structure SOK {α : Type} (V : Mem) (by_ b : Nat) (en : α → List Value) (R : α → Prop) (q : SR α) : Prop where
 len : q.xs.length = q.n
 cap : q.n ≤ q.c
 max : q.c ≤ maxLen
 reach : q.n * by_ ≤ 140737488351232
 few : 0 < b → q.n ≤ b
 cels : Cels V [] q.A (q.xs.flatMap en)
 all : ∀ a ∈ q.xs, R a
section
variable {H : Type} {enc : TypeId × Value → H} {P : Program} {w : World} {base : Nat} {spare : Nat → Bool} {held : Bool} {Cn : TypeId → DataW H → Prop}
end
end Go.Proofs.YtlkajdcgdoijjaaGreatDoor.K
end
section
namespace Go.Proofs.YtlkajdcgdoijjaaGreatDoor.K
open Go.RowKit
section
variable {P : Program} {ops : Array Oper} {C : World → Prop} {Q : Exit → Act → World → Prop}
/-- What is not listed, and neither 'i' nor of 'S', waits for something of the same sort or for 'i'. -/
def nowB (ops : Array Oper) (listed : List Bool) (i : Nat) (S : List Nat) : Bool :=
 ((List.range ops.size).all fun j => listed.getD j true || (j == i || (S.contains j || (match ops[j]? with
  | some oj => oj.after.toList.any fun e => Region.binds .any e && (!(listed.getD e.on true) && !(S.contains e.on))
  | none => true)))) &&
 ((i :: S).all (fun k => S.all fun j => j == k || (match ops[k]?, ops[j]? with | some ok, some oj => ok.apart ops oj | _, _ => false)) && !(S.contains i))
theorem wpOp_inv {j : Nat} {oj : Oper} {v : Value} {a : Act} {w : World} (hj : ops[j]? = some oj) (hQ : ¬ LetsOut Q) (hy : YV P ops (fun w' => w' = w) oj v a) {K : Act → World → Prop} (h : wpOp P ops Q j K a w) : K (a.put oj.dst v) w := by
 unfold Go.wpOp at h; simp only [hj] at h; rcases hy with ⟨hwa, hv⟩ | ⟨hwa, rfl⟩
 ·simp only [hwa, if_true, Oper.wp, hv w rfl, Oper.upon] at h; rcases h with h | ⟨_, h⟩
  ·exact h
  ·exact absurd h hQ
 ·simp only [hwa, Bool.false_eq_true, if_false] at h; exact h
theorem anyC_now {i : Nat} {oi : Oper} {v : Value} {w : World} (hi : ops[i]? = some oi) (hsel : ∀ (j : Nat) (o : Oper) cs b, ops[j]? = some o → o.op ≠ .select cs b) (hQ : ¬ LetsOut Q)
  (S : List Nat) (g : Nat → Oper) (u : Nat → Value) (hg : ∀ j ∈ S, ops[j]? = some (g j)) (hiS : i ∉ S) (hap : ∀ j ∈ S, oi.apart ops (g j) = true) (hap' : ∀ k ∈ S, ∀ j ∈ S, j ≠ k → (g k).apart ops (g j) = true) :
  ∀ (fuel : Nat) (listed : Array Bool) (a : Act),
   (∀ j oj, ops[j]? = some oj → listed.getD j true = false → j ≠ i → j ∉ S → ∃ e ∈ oj.after, Region.binds .any e = true ∧ listed.getD e.on true = false ∧ e.on ∉ S) →
   i ∈ Region.ready .any ops listed → YV P ops (fun w' => w' = w) oi v a → (∀ j ∈ S, listed.getD j true = false → YV P ops (fun w' => w' = w) (g j) (u j) a) →
   anyC P .any ops C Q fuel (listed.setIfInBounds i true) (a.put oi.dst v) w → anyC P .any ops C Q (fuel + 1) listed a w := by
 intro fuel; have main : ∀ (listed : Array Bool), (∀ j oj, ops[j]? = some oj → listed.getD j true = false → j ≠ i → j ∉ S → ∃ e ∈ oj.after, Region.binds .any e = true ∧ listed.getD e.on true = false ∧ e.on ∉ S) →
   ∀ j ∈ Region.ready .any ops listed, j ≠ i → j ∈ S := by
  intro listed hblk j hj hji
  apply Classical.byContradiction
  intro hjS; obtain ⟨hun, oj, hoj, hall⟩ := mem_ready.1 hj; obtain ⟨e, he, hb, hu, _⟩ := hblk j oj hoj hun hji hjS; have h1 := hall e he hb; rcases Nat.lt_or_ge e.on listed.size with h' | h'
  ·simp [h'] at h1 hu; rw [hu] at h1; cases h1
  ·simp [Array.getElem?_eq_none h'] at h1
 induction fuel with
 | zero =>
  intro listed a hblk hr hy hS H; refine ⟨H.1, fun h => (by rw [h] at hr; cases hr), fun j hj => ?_⟩
  by_cases hji : j = i
  ·subst hji; exact hy.wpOp hi rfl H
  ·have := ready_mono hj hji; rw [H.2.1] at this
   cases this
 | succ fuel ih =>
  intro listed a hblk hr hy hS H; refine ⟨H.1, fun h => (by rw [h] at hr; cases hr), fun j hj => ?_⟩
  by_cases hji : j = i
  ·subst hji; exact hy.wpOp hi rfl H
  ·have hjS := main listed hblk j hj hji; have hun := (mem_ready.1 hj).1; have hyj := hS j hjS hun; have hoj := hg j hjS; obtain ⟨h1, h2, h3⟩ := Oper.apart_spec (hap j hjS); have hyj' : YV P ops (fun w' => w' = w) (g j) (u j) (a.put oi.dst v) := hyj.same (execOp_put _ (fun cs b => hsel j _ cs b hoj) a oi.dst v h1) (wanted_put _ a oi.dst v h1); have H2 := wpOp_inv hoj hQ hyj' (H.2.2 j (ready_mono hj hji)); refine hyj.wpOp hoj rfl (ih (listed.setIfInBounds j true) (a.put (g j).dst (u j)) ?_ (ready_mono hr (Ne.symm hji)) ?_ ?_ ?_)
   ·intro k ok hk hku hki hkS; have hjk : j ≠ k := fun e => hkS (e ▸ hjS); rw [getD_set_ne true hjk] at hku; obtain ⟨e, he, hb, heu, heS⟩ := hblk k ok hk hku hki hkS; have hje : j ≠ e.on := fun e' => heS (by rw [← e']; exact hjS); exact ⟨e, he, hb, by rw [getD_set_ne true hje]; exact heu, heS⟩
   ·exact hy.same (execOp_put _ (fun cs b => hsel i _ cs b hi) a (g j).dst (u j) h3) (wanted_put _ a (g j).dst (u j) h3)
   ·intro k hk hku
    by_cases hjk : j = k
    ·subst hjk; rcases Nat.lt_or_ge j listed.size with h' | h'
     ·simp [h'] at hku
     ·simp [Array.getElem?_eq_none h'] at hun
    ·rw [getD_set_ne true hjk] at hku; obtain ⟨_, _, h6⟩ := Oper.apart_spec (hap' k hk j hjS hjk); exact (hS k hk hku).same (execOp_put _ (fun cs b => hsel k _ cs b (hg k hk)) a (g j).dst (u j) h6) (wanted_put _ a (g j).dst (u j) h6)
   ·rw [Array.setIfInBounds_comm _ _ hji, ← Act.put_comm a v (u j) h2]; exact H2
end
section
variable {P : Program} {N : Nm} {w0 : World} {V : Mem} {L0 : List Grp} {Q : Exit → Frm → List Grp → Prop} {f : Frm} {L : List Grp} {ops : Array Oper} {o : Oper} {d : Nat} {v : Value}
def SYld (P : Program) (f : Frm) (V : Mem) (L : List Grp) (ops : Array Oper) : List (Nat × Oper × Value) → Prop
 | [] => True
 | s :: r => (ops[s.1]? = some s.2.1 ∧ s.2.1.guard = none ∧ Yld P f V L s.2.1 s.2.2) ∧ SYld P f V L ops r
theorem SYld.mem : ∀ {S : List (Nat × Oper × Value)}, SYld P f V L ops S → ∀ s ∈ S, ops[s.1]? = some s.2.1 ∧ s.2.1.guard = none ∧ Yld P f V L s.2.1 s.2.2
 | [], _, s, hs => by cases hs
 | t :: r, h, s, hs => by
  rcases List.mem_cons.1 hs with rfl | hs
  ·exact h.1
  ·exact h.2.mem s hs
variable {x y : Operand} {ty yt : TypeId} {ps : String} {af : Array Edge} {g : Option (Nat × Bool)}
theorem d_now {fuel i : Nat} {listed : List Bool} (S : List (Nat × Oper × Value)) (hi : ops[i]? = some o) (hs : Region.noSelect ops = true) (hr : (Region.ready .any ops listed.toArray).contains i = true) (hB : nowB ops listed i (S.map (·.1)) = true) (hg : o.guard = none) (hd : o.dst = some d) (hN : Nat.blt d N = true)
  (hy : Yld P f V L o v) (hS : SYld P f V L ops S) (h : drawS P N w0 V L0 ops Q fuel (listed.set i true) (upd f d v) L) : drawS P N w0 V L0 ops Q (fuel + 1) listed f L := by
 intro a w ha hw; simp only [nowB, Bool.and_eq_true, List.all_eq_true, List.mem_range, Bool.or_eq_true, beq_iff_eq, Bool.not_eq_true'] at hB; obtain ⟨hB1, hB2, hB3⟩ := hB; have hsel := Region.noSelect_spec hs; have hfind : ∀ j ∈ S.map (·.1), ∃ s ∈ S, s.1 = j := fun j hj => by obtain ⟨s, h1, h2⟩ := List.mem_map.1 hj; exact ⟨s, h1, h2⟩
 let look : Nat → Nat × Oper × Value := fun j => (S.find? (fun s => s.1 == j)).getD (j, o, v)
 have hlook : ∀ j ∈ S.map (·.1), look j ∈ S ∧ (look j).1 = j := fun j hj => by
  obtain ⟨s, h1, h2⟩ := hfind j hj
  cases hf : S.find? (fun s => s.1 == j) with
  | none =>
   rw [List.find?_eq_none] at hf; exact absurd (by simpa using h2) (hf s h1)
  | some t =>
   simp only [look, hf, Option.getD_some]; exact ⟨List.mem_of_find?_eq_some hf, by have := List.find?_some hf; simpa using this⟩
 have hops : ∀ j ∈ S.map (·.1), ops[j]? = some (look j).2.1 := fun j hj => by
  obtain ⟨h1, h2⟩ := hlook j hj; have := (hS.mem _ h1).1
  rwa [h2] at this
 have hiS : i ∉ S.map (·.1) := fun hh => by
  have : (S.map (·.1)).contains i = true := by simpa using hh
  rw [hB3] at this; cases this
 have hap : ∀ k ∈ i :: S.map (·.1), ∀ j ∈ S.map (·.1), j ≠ k → ∀ ok, ops[k]? = some ok → ok.apart ops (look j).2.1 = true := fun k hk j hj hne ok hok => by
  rcases hB2 k hk j hj with e | e
  ·exact absurd e hne
  ·rw [hok, hops j hj] at e; exact e
 refine anyC_now (v := v) hi hsel (onN_out _) (S.map (·.1)) (fun j => (look j).2.1) (fun j => (look j).2.2) hops hiS (fun j hj => hap i (by simp) j hj (fun e => hiS (e ▸ hj)) o hi) (fun k hk j hj hne => hap k (List.mem_cons_of_mem _ hk) j hj hne _ (hops k hk)) fuel listed.toArray a ?_ (by simpa using hr)
  (.inl ⟨by simp [Region.wanted, hg], fun w' hc => by subst hc; rw [ha.eval]; exact hy w0 _ hw⟩) ?_ ?_
 ·intro j oj hoj hun hji hjS; have hlt : j < ops.size := (Array.getElem?_eq_some_iff.1 hoj).1; rcases hB1 j hlt with e | e | e | e
  ·simp only [List.getD_eq_getElem?_getD] at e; simp only [Array.getD_eq_getD_getElem?, List.getElem?_toArray] at hun; rw [e] at hun; cases hun
  ·exact absurd e hji
  ·exact absurd (by simpa using e) hjS
  ·rw [hoj] at e; simp only [List.any_eq_true, Bool.and_eq_true, Bool.not_eq_true'] at e; obtain ⟨x, hx, hb, hu, hxS⟩ := e; refine ⟨x, by simpa using hx, hb, ?_, ?_⟩
   ·simp only [List.getD_eq_getElem?_getD] at hu; simp only [Array.getD_eq_getD_getElem?, List.getElem?_toArray]; exact hu
   ·intro hh; have : (S.map (·.1)).contains x.on = true := by simpa using hh
    rw [hxS] at this; cases this
 ·intro j hj _; obtain ⟨h1, h2⟩ := hlook j hj; obtain ⟨_, h4, h5⟩ := hS.mem _ h1; exact .inl ⟨by simp [Region.wanted, h4], fun w' hc => by subst hc; rw [ha.eval]; exact h5 w0 _ hw⟩
 ·have := h _ w (hd ▸ ha.put hN v) hw
  simpa using this
end
end Go.Proofs.YtlkajdcgdoijjaaGreatDoor.K
end
section
namespace Go.Proofs.YtlkajdcgdoijjaaGreatDoor.K
open Go.RowKit
section
variable {P : Program} {N : Nm} {w0 : World} {V : Mem} {Q : Exit → Frm → List Grp → Prop} {f : Frm} {L : List Grp} {ops : Array Oper} {rest : List Oper} {d : Nat} {v : Value}
variable {ty : TypeId} {ps : String} {af : Array Edge} {x y : Operand}
theorem o_fuse {G H : Grp} {R : List Grp} (h : opsS P N w0 V ops Q rest f ((G ++ H) :: R)) : opsS P N w0 V ops Q rest f (G :: H :: R) :=
 o_sub _ (fun _ hw => hw.sublist (by simp)) h
end
end Go.Proofs.YtlkajdcgdoijjaaGreatDoor.K
end
section
set_option linter.unusedVariables false
namespace Go.Proofs.YtlkajdcgdoijjaaGreatDoor.K
open Go.RowKit
theorem d_eff3 {P : Program} {N : Nm} {w0 : World} {V : Mem} {L0 L : List Grp} {ops : Array Oper} {Q : Exit → Frm → List Grp → Prop} {f : Frm} {fuel k k' k'' n m : Nat} {listed : List Bool} {o o' o'' : Oper} (hk : ops[k]? = some o) (hk' : ops[k']? = some o') (hk'' : ops[k'']? = some o'') (hr : Region.ready .any ops listed.toArray = [k, k', k'']) (hs : (L.drop n).take m = L0)
  (h : opsS P N w0 V ops (onlyS fun f' L' => drawS P N w0 V L0 ops Q fuel (listed.set k true) f' L') [o] f L) (h' : opsS P N w0 V ops (onlyS fun f' L' => drawS P N w0 V L0 ops Q fuel (listed.set k' true) f' L') [o'] f L) (h'' : opsS P N w0 V ops (onlyS fun f' L' => drawS P N w0 V L0 ops Q fuel (listed.set k'' true) f' L') [o''] f L) : drawS P N w0 V L0 ops Q (fuel + 1) listed f L :=
 d_effs hr hs fun i hi => by
  rcases List.mem_cons.1 hi with rfl | hi
  ·exact ⟨_, hk, h⟩
  ·rcases List.mem_cons.1 hi with rfl | hi
   ·exact ⟨_, hk', h'⟩
   ·obtain rfl : i = k'' := by simpa using hi
    exact ⟨_, hk'', h''⟩
end Go.Proofs.YtlkajdcgdoijjaaGreatDoor.K
end
section
set_option linter.unusedVariables false
namespace Go.Proofs.YtlkajdcgdoijjaaGreatDoor.K
section
variable {P : Program} {N : Nm} {w0 : World} {V : Mem} {Q : Exit → Frm → List Grp → Prop} {f : Frm} {L : List Grp}
/-- 's_loop' where the slots 'K' and the groups 'GK' stay as they are. -/
theorem s_loopK {c : Code} {γ : Type} (K : List (Nat × Value)) (GK : List Grp) (S : γ → List (Nat × Value)) (G : γ → List Grp) (I : γ → Prop) (m : γ → Nat) (g0 : γ)
  (hS : Has f (S g0 ++ K)) (hG : Sub (G g0 ++ GK) L) (h0 : I g0)
  (round : ∀ g f, I g → wpS P N w0 V c (thenS (fun f' L' => ∃ g', m g' < m g ∧ I g' ∧ Has f' (S g' ++ K) ∧ Sub (G g' ++ GK) L') Q) (pat f (S g ++ K)) (G g ++ GK)) : wpS P N w0 V (.loop c) Q f L :=
 s_loop (fun g => S g ++ K) (fun g => G g ++ GK) I m g0 h0 hS hG round
theorem s_joinK {x y : Code} {γ : Type} (K : List (Nat × Value)) (GK : List Grp) (S : γ → List (Nat × Value)) (G : γ → List Grp) (I : γ → Prop) (hK : Has f K) (js : List Nat) (_hG : picks js L = GK)
  (h : wpS P N w0 V x (thenS (fun f' L' => ∃ g, I g ∧ Has f' (S g ++ K) ∧ Sub (G g ++ GK) L') Q) f L) (hy : ∀ g f, I g → wpS P N w0 V y Q (pat f (S g ++ K)) (G g ++ GK)) : wpS P N w0 V (.seq x y) Q f L :=
 s_join (fun g => S g ++ K) (fun g => G g ++ GK) I h hy
end
end Go.Proofs.YtlkajdcgdoijjaaGreatDoor.K
end
section
namespace Go.Proofs.YtlkajdcgdoijjaaGreatDoor.K
open Go.RowKit
/-- What one memory holds, another one holds. -/
def MSub (V V' : Mem) : Prop := ∀ b o, V b o → V' b o
theorem MSub.ext {V : Mem} {L : List Grp} : MSub V (ext V L) := fun _ _ h => .inl h
theorem MSub.trans {V V' V'' : Mem} (h : MSub V V') (h' : MSub V' V'') : MSub V V'' := fun b o hb => h' b o (h b o hb)
theorem Cels.ms {V V' : Mem} {A : Option Addr} {cs : List Value} (h : Cels V [] A cs) (hm : MSub V V') : Cels V' [] A cs := h.mono fun b o hb => by
 rcases hb with hb | hb
 ·exact .inl (hm b o hb)
 ·simp at hb
/-- The memory of a group. -/
def inG (G : Grp) : Mem := fun b o => (b, o) ∈ G
theorem inG_ext {V : Mem} {L : List Grp} {G : Grp} {j : Nat} (hj : nth L j = some G) : MSub (inG G) (ext V L) := fun b o h => .inr (by
 have : ∀ (L : List Grp) (j : Nat), nth L j = some G → G ∈ L := by
  intro L
  induction L with
  | nil => intro j h; cases j <;> cases h
  | cons a l ih =>
   intro j h
   cases j with
   | zero => simp only [nth, Option.some.injEq] at h; subst h; exact List.mem_cons_self
   | succ j => exact List.mem_cons_of_mem _ (ih j h)
 exact List.mem_flatten.2 ⟨G, this L j hj, h⟩)
theorem inG_left {G H : Grp} : MSub (inG G) (inG (G ++ H)) := fun _ _ h => List.mem_append_left _ h
theorem inG_right {G H : Grp} : MSub (inG H) (inG (G ++ H)) := fun _ _ h => List.mem_append_right _ h
theorem OS.mem {A : Option Addr} {n c : Nat} {T : TypeId} {sz : Nat} {cs : List Value} {E : Grp} (h : OS A n c T sz cs E) : Cels (inG E) [] A cs := (h.cels (V := fun _ _ => False) (L := [E]) (j := 0) rfl).mono fun b o hb => by
 rcases hb with hb | hb
 ·exact hb.elim
 ·exact .inl (by simpa [inG] using hb)
theorem cels_lit {V : Mem} {L : List Grp} {b : Nat} {T : TypeId} (cs : List Value) {j : Nat} (hj : nth L j = some [(b, .cells cs.toArray T (0, 0))]) : Cels V L (some ⟨b, 0, none⟩) cs :=
 cels_own (cs := cs) (l := cs) j hj (by simp)
theorem flatMap_set {α : Type} {enc : α → List Value} {sz : Nat} (hsz : ∀ x, (enc x).length = sz) : ∀ (xs : List α) (k : Nat) (y : α), k < xs.length → lay (xs.flatMap enc) (k * sz) (enc y) = (xs.set k y).flatMap enc
 | [], k, y, h => by simp at h
 | x :: xs, 0, y, _ => by
  simp only [List.set_cons_zero, List.flatMap_cons, lay, Nat.zero_mul, List.take_zero, List.nil_append, Nat.zero_add]; rw [hsz y, List.drop_append, ← hsz x, List.drop_length, Nat.sub_self]; rfl
 | x :: xs, k + 1, y, h => by
  have ih := flatMap_set hsz xs k y (by simpa using h); simp only [List.set_cons_succ, List.flatMap_cons]; rw [← ih]; unfold lay; rw [Nat.add_mul, Nat.one_mul, ← hsz x, List.take_append, List.take_of_length_le (by omega), List.drop_append, List.drop_of_length_le (by omega)]; simp only [List.append_assoc, List.nil_append]; rw [show k * (enc x).length + (enc x).length - (enc x).length = k * (enc x).length by omega, show k * (enc x).length + (enc x).length + (enc y).length - (enc x).length = k * (enc x).length + (enc y).length by omega]
theorem os_set {α : Type} {enc : α → List Value} {sz : Nat} (hsz : ∀ x, (enc x).length = sz) {A : Option Addr} {n c : Nat} {T : TypeId} {E : Grp} {xs : List α} {k : Nat} {y : α} (h : OS A n c T sz (lay (xs.flatMap enc) (k * sz) (enc y)) E) (hk : k < xs.length) : OS A n c T sz ((xs.set k y).flatMap enc) E := by
 rwa [flatMap_set hsz xs k y hk] at h
theorem os_made_rec {α : Type} [Inhabited α] {enc : α → List Value} {sz : Nat} {z : Array Value} (hz : z.toList = enc default) (hl : (enc (default : α)).length = sz) {A : Option Addr} {n : Nat} {e : TypeId} {E : Grp} (h : OS A n n e sz (madeCells z (n * sz)).toList E) : OS A n n e sz ((List.replicate n (default : α)).flatMap enc) E := by
 have hzs : z.size = sz := by rw [← hl, ← hz]; simp
 have key : ∀ n, (madeCells z (n * sz)).toList = (List.replicate n (default : α)).flatMap enc := by
  intro n
  induction n with
  | zero => simp [madeCells]
  | succ n ih =>
   rw [List.replicate_succ', List.flatMap_append, ← ih]; unfold madeCells; rw [Nat.add_mul, Nat.one_mul]; simp only [Array.toList_map, Array.toList_range, List.range_add, List.map_append, List.map_map, List.flatMap_cons, List.flatMap_nil, List.append_nil]
   congr 1
   apply List.ext_getElem (by simp [hl])
   intro j h1 h2; simp only [List.length_map, List.length_range] at h1; simp only [List.getElem_map, List.getElem_range, Function.comp]; rw [hzs, Nat.add_comm, Nat.add_mul_mod_self_right, Nat.mod_eq_of_lt h1]; have : z.toList[j]'(by simp; omega) = (enc (default : α))[j]'(by omega) := by simp only [hz]
   rw [← this]; simp [show j < z.size by omega]
 rwa [key n] at h
theorem os_snoc {α : Type} {enc : α → List Value} {A : Option Addr} {n c : Nat} {T : TypeId} {sz : Nat} {E : Grp} {xs : List α} {y : α} {ys : List Value} (h : OS A n c T sz (xs.flatMap enc ++ ys) E) (hy : ys = enc y) : OS A n c T sz ((xs ++ [y]).flatMap enc) E := by
 rw [hy] at h
 rwa [List.flatMap_append, List.flatMap_cons, List.flatMap_nil, List.append_nil]
theorem all_set {α : Type} {p : α → Prop} {xs : List α} {k : Nat} {y : α} (h : ∀ x ∈ xs, p x) (hy : p y) : ∀ x ∈ xs.set k y, p x := fun x hx => by
 rcases List.mem_or_eq_of_mem_set hx with h1 | h1
 ·exact h x h1
 ·exact h1 ▸ hy
theorem all_snoc {α : Type} {p : α → Prop} {xs : List α} {y : α} (h : ∀ x ∈ xs, p x) (hy : p y) : ∀ x ∈ xs ++ [y], p x := fun x hx => by
 rcases List.mem_append.1 hx with h1 | h1
 ·exact h x h1
 ·exact List.mem_singleton.1 h1 ▸ hy
theorem all_rep {α : Type} {p : α → Prop} {n : Nat} {y : α} (hy : p y) : ∀ x ∈ List.replicate n y, p x := fun _ hx => (List.eq_of_mem_replicate hx) ▸ hy
/-- A list that is made element by element. -/
theorem map_take_set {α β : Type} {f : α → β} {xs ys : List α} {k : Nat} {y d : α} (hx : k < xs.length) (hy : k < ys.length) (h : (xs.take k).map f = (ys.take k).map f) (he : f y = f (ys.getD k d)) : ((xs.set k y).take (k + 1)).map f = (ys.take (k + 1)).map f := by
 have e1 : (xs.set k y).take (k + 1) = xs.take k ++ [y] := by
  rw [List.take_add_one, List.getElem?_set_self hx]
  congr 1
  apply List.ext_getElem?
  intro j; simp only [List.getElem?_take, List.getElem?_set]
  split
  ·rw [if_neg (by omega)]
  ·rfl
 have e2 : ys.take (k + 1) = ys.take k ++ [ys.getD k d] := by
  rw [List.take_add_one, List.getElem?_eq_getElem hy, List.getD_eq_getElem?_getD, List.getElem?_eq_getElem hy]; rfl
 rw [e1, e2, List.map_append, List.map_append, h]; simp [he]
end Go.Proofs.YtlkajdcgdoijjaaGreatDoor.K
end
section
set_option linter.unusedVariables false
namespace Go.Proofs.YtlkajdcgdoijjaaGreatDoor.K
open Go.RowKit
section
variable {P : Program} {ops : Array Oper} {C : Array Bool → World → Prop} {Q : Exit → Act → World → Prop}
def anyS (P : Program) (ops : Array Oper) (C : Array Bool → World → Prop) (Q : Exit → Act → World → Prop) : Nat → Array Bool → Act → World → Prop
 | 0, listed, a, w => C listed w ∧ Region.ready .any ops listed = [] ∧ Q .normal a w
 | fuel + 1, listed, a, w =>
  C listed w ∧ (Region.ready .any ops listed = [] → Q .normal a w) ∧
  ∀ i ∈ Region.ready .any ops listed, wpOp P ops Q i (anyS P ops C Q fuel (listed.setIfInBounds i true)) a w
theorem anyS.any : ∀ {fuel : Nat} {listed : Array Bool} {a : Act} {w : World}, anyS P ops C Q fuel listed a w → wpAny P .any ops Q fuel listed a w
 | 0, _, _, _, h => h.2
 | _ + 1, _, _, _, h => ⟨h.2.1, fun i hi => wpOp_mono (fun _ _ => anyS.any) (h.2.2 i hi)⟩
theorem anyS_first {i : Nat} {oi : Oper} {v : Value} {D : World → Prop} {inv : Array Bool → Prop} (hi : ops[i]? = some oi) (hsel : ∀ (j : Nat) (o : Oper) cs b, ops[j]? = some o → o.op ≠ .select cs b)
  (hQ : ∀ c a w, ¬ Q (.panic c) a w) (hset : ∀ listed w, C (listed.setIfInBounds i true) w → C listed w) (hD : ∀ listed w, inv listed → C listed w → D w)
  (hinv : ∀ listed j, inv listed → i ∈ Region.ready .any ops listed → j ∈ Region.ready .any ops listed → j ≠ i → inv (listed.setIfInBounds j true)) :
  ∀ (fuel : Nat) (listed : Array Bool) (a : Act) (w : World), inv listed →
   (∀ j oj, ops[j]? = some oj → j ≠ i → listed.getD j true = false → (∀ e ∈ oj.after, Region.binds .any e = true → e.on ≠ i) → oi.apart ops oj = true) →
   i ∈ Region.ready .any ops listed → YV P ops D oi v a →
   anyS P ops C Q fuel (listed.setIfInBounds i true) (a.put oi.dst v) w → anyS P ops C Q (fuel + 1) listed a w := by
 intro fuel
 induction fuel with
 | zero =>
  intro listed a w hv _ hr hy H; have hc : C listed w := hset _ _ H.1; refine ⟨hc, fun h => (by rw [h] at hr; cases hr), fun j hj => ?_⟩
  by_cases hji : j = i
  ·subst hji; exact hy.wpOp hi (hD _ _ hv hc) H
  ·have := ready_mono hj hji; rw [H.2.1] at this
   cases this
 | succ fuel ih =>
  intro listed a w hv hfree hr hy H; have hc : C listed w := hset _ _ H.1; refine ⟨hc, fun h => (by rw [h] at hr; cases hr), fun j hj => ?_⟩
  by_cases hji : j = i
  ·subst hji; exact hy.wpOp hi (hD _ _ hv hc) H
  ·have h1 := H.2.2 j (ready_mono hj hji); obtain ⟨hjun, oj, hoj, hall⟩ := mem_ready.1 hj; have hnot : ∀ e ∈ oj.after, Region.binds .any e = true → e.on ≠ i := fun e he hb heq => by
    have h1 := hall e he hb; have h0 := (mem_ready.1 hr).1; rw [heq] at h1; rcases Nat.lt_or_ge i listed.size with h' | h'
    ·simp [h'] at h0 h1; rw [h0] at h1; cases h1
    ·simp [Array.getElem?_eq_none h'] at h1
   have h2 := wpOp_over hoj (hfree j oj hoj hji hjun hnot) (fun cs b => hsel i oi cs b hi) (fun cs b => hsel j oj cs b hoj) hQ hy h1; have hfree' : ∀ k ok, ops[k]? = some ok → k ≠ i → (listed.setIfInBounds j true).getD k true = false →
     (∀ e ∈ ok.after, Region.binds .any e = true → e.on ≠ i) → oi.apart ops ok = true := fun k ok hk hki hun hno => by
    refine hfree k ok hk hki ?_ hno
    by_cases hjk : j = k
    ·subst hjk; exact hjun
    ·rw [getD_set_ne true hjk] at hun; exact hun
   refine wpOp_mono (fun a' w' h3 => ih (listed.setIfInBounds j true) a' w' (hinv _ _ hv hr hj hji) hfree' (ready_mono hr (Ne.symm hji)) h3.1 ?_) h2; rw [Array.setIfInBounds_comm _ _ hji]; exact h3.2
end
/-- 'k' waits for 'i' by way of the operations of a chain, none of which is listed. -/
def linksB (ops : Array Oper) : Nat → List Nat → Nat → Bool
 | i, [], k => i == k
 | i, c :: cs, k => (match ops[c]? with | some o => o.after.toList.any fun e => Region.binds .any e && e.on == i | none => false) && linksB ops c cs k
def chainB (ops : Array Oper) (listed : List Bool) (i : Nat) (cs : List Nat) (k : Nat) : Bool := linksB ops i cs k && cs.all fun c => !(listed.getD c true)
theorem links_pred {ops : Array Oper} {k : Nat} : ∀ {cs : List Nat} {i : Nat}, linksB ops i cs k = true → ∀ c ∈ cs, ∃ o, ops[c]? = some o ∧ ∃ e ∈ o.after, Region.binds .any e = true ∧ (e.on = i ∨ e.on ∈ cs)
 | [], _, _, c, hc => by cases hc
 | d :: cs, i, h, c, hc => by
  simp only [linksB, Bool.and_eq_true] at h; obtain ⟨h1, h2⟩ := h; rcases List.mem_cons.1 hc with rfl | hc
  ·cases ho : ops[c]? with
   | none => rw [ho] at h1; cases h1
   | some o =>
    rw [ho] at h1; simp only [List.any_eq_true, Bool.and_eq_true, beq_iff_eq] at h1; obtain ⟨e, he, hb, hon⟩ := h1; exact ⟨o, rfl, e, by simpa using he, hb, .inl hon⟩
  ·obtain ⟨o, ho, e, he, hb, hon⟩ := links_pred h2 c hc; exact ⟨o, ho, e, he, hb, hon.elim (fun h => .inr (h ▸ List.mem_cons_self)) (fun h => .inr (List.mem_cons_of_mem _ h))⟩
theorem links_last {ops : Array Oper} {k : Nat} : ∀ {cs : List Nat} {i : Nat}, linksB ops i cs k = true → k = i ∨ k ∈ cs
 | [], i, h => by
  have h' : i = k := by simpa [linksB] using h
  exact .inl h'.symm
 | c :: cs, i, h => by
  simp only [linksB, Bool.and_eq_true] at h; rcases links_last h.2 with h | h
  ·exact .inr (h ▸ List.mem_cons_self)
  ·exact .inr (List.mem_cons_of_mem _ h)
section
variable {P : Program} {N : Nm} {w0 : World} {V : Mem} {L0 LA : List Grp} {Q : Exit → Frm → List Grp → Prop} {f : Frm} {L : List Grp} {ops : Array Oper} {o : Oper} {d kk : Nat} {v : Value}
variable {fuel i j : Nat} {listed : List Bool} {LD : List Grp} {b b' : Bool}
end
end Go.Proofs.YtlkajdcgdoijjaaGreatDoor.K
end
section
namespace Go.Proofs.YtlkajdcgdoijjaaGreatDoor.K
open Go.RowKit
section
variable {P : Program} {N : Nm} {w0 : World} {V : Mem} {Q : Exit → Frm → List Grp → Prop} {f : Frm} {R : List Grp} {ops : Array Oper} {rest : List Oper}
end
end Go.Proofs.YtlkajdcgdoijjaaGreatDoor.K
end
section
namespace Go.Proofs.YtlkajdcgdoijjaaGreatDoor.K
open Go.RowKit
section
variable {P : Program} {N : Nm} {w0 : World} {V : Mem} {Q : Exit → Frm → List Grp → Prop} {f : Frm} {L : List Grp} {c : Code}
/-- A loop that ends within so many rounds. -/
def roundS (P : Program) (N : Nm) (w0 : World) (V : Mem) (c : Code) (Q : Exit → Frm → List Grp → Prop) : Nat → Frm → List Grp → Prop
 | 0, _, _ => False
 | n + 1, f, L => wpS P N w0 V c (thenS (roundS P N w0 V c Q n) Q) f L
theorem r_succ {n : Nat} (h : wpS P N w0 V c (thenS (roundS P N w0 V c Q n) Q) f L) : roundS P N w0 V c Q (n + 1) f L := h
theorem s_rounds (n : Nat) (h : roundS P N w0 V c Q n f L) : wpS P N w0 V (.loop c) Q f L := by
 have key : ∀ (n : Nat) (f : Frm) (L : List Grp) (a : Act) (w : World), Rep N f a → SH w0 V w L → roundS P N w0 V c Q n f L → Code.rounds P c (lift N w0 V Q) n a w := by
  intro n
  induction n with
  | zero => intro f L a w _ _ h; exact h.elim
  | succ n ih =>
   intro f L a w ha hw h; refine wp_mono (h a w ha hw) ?_; rintro e a' w' ⟨f', L', h1, h2, h3⟩
   cases e with
   | normal => exact ih f' L' a' w' h1 h2 h3
   | exit id => exact ⟨f', L', h1, h2, h3⟩
   | goto l => exact ⟨f', L', h1, h2, h3⟩
   | ret => exact ⟨f', L', h1, h2, h3⟩
   | panic ch => exact ⟨f', L', h1, h2, h3⟩
   | outgrown => exact ⟨f', L', h1, h2, h3⟩
 intro a w ha hw; exact wp_loop_rounds n (key n f L a w ha hw h)
end
end Go.Proofs.YtlkajdcgdoijjaaGreatDoor.K
end
section
namespace Go.Proofs.YtlkajdcgdoijjaaGreatDoor.K
open Go.RowKit
/-- A string's bytes as numbers. -/
def bts (s : ByteArray) : List Int := s.data.toList.map fun b => (b.toNat : Int)
theorem bts_len (s : ByteArray) : (bts s).length = s.size := by unfold bts; rw [List.length_map, Array.length_toList]; rfl
theorem bts_bd {s : ByteArray} : ∀ b ∈ bts s, 0 ≤ b ∧ b ≤ 255 := fun b hb => by
 obtain ⟨c, _, rfl⟩ := List.mem_map.1 hb; have := c.toNat_lt; exact ⟨by omega, by omega⟩
theorem mkB_bts (s : ByteArray) : mkB (bts s) = s := by
 rw [mkB_eq]; have h : ((bts s).map fun n => UInt8.ofNat n.toNat) = s.data.toList := by
  unfold bts; rw [List.map_map]
  conv => rhs; rw [← List.map_id s.data.toList]
  apply List.map_congr_left
  intro b _; simp
 rw [h]
section
variable {P : Program} {N : Nm} {w0 : World} {V : Mem} {ops : Array Oper} {rest : List Oper} {Q : Exit → Frm → List Grp → Prop} {f : Frm} {L : List Grp} {ty : TypeId} {ps : String} {af : Array Edge} {x : Operand} {d : Tmp}
theorem o_strb {S D e : TypeId} (hN : Nat.blt d N = true) (hs : P.underlying S = some .string) (hd : P.underlying D = some (.slice e)) (he : P.underlying e = some (.int .u8)) {s : ByteArray} (hx : evF f x = .string s)
  (h : ∀ A c G, Cels (inG G) [] A ((bts s).map (.int .u8)) → opsS P N w0 V ops Q rest (upd f d (.slice A s.size c)) (L ++ [G])) :
  opsS P N w0 V ops Q (⟨some d, .convert S D x, ty, ps, af, none⟩ :: rest) f L := by
 refine o_effE (d := d) (fun v L' => ∃ A c G, v = .slice A s.size c ∧ L' = L ++ [G] ∧ Cels (inG G) [] A ((bts s).map (.int .u8))) rfl rfl hN (fun w hw => ?_) ?_
 ·refine ⟨.slice (some ⟨w.heap.size, 0, none⟩) s.size (grownCap w s.size 0 e), _, _, ?_, (show SH w0 V w.drew L from hw.drawn _).alloc (.cells (bytesRow s (grownCap w s.size 0 e)) e ((bytesRow s (grownCap w s.size 0 e)).size, (bytesRow s (grownCap w s.size 0 e)).size + 1)), _, _, _, rfl, rfl, ?_⟩
  ·simp only [execOp, hx, Sem.run_bind, run_bytes_of_string w S D e s hs hd he, Result.andThen_ok, Sem.run_pure]
   rfl
  ·intro i c hi; refine ⟨⟨w.heap.size, i, none⟩, _, _, _, by simp [idx, Addr.add]; omega, rfl, .inl (List.mem_singleton.2 rfl), ?_⟩
   show (bytesRow s _)[i]? = some c
   unfold bytesRow bts at *; have hlt : i < s.data.size := by have := (List.getElem?_eq_some_iff.1 hi).1; simpa using this
   rw [Array.getElem?_append_left (by simpa using hlt)]
   simpa [hlt] using hi
 ·rintro v L' ⟨A, c, G, rfl, rfl, h3⟩; exact h A c G h3
end
end Go.Proofs.YtlkajdcgdoijjaaGreatDoor.K
end
section
namespace Go.Proofs.YtlkajdcgdoijjaaGreatDoor.K
open Go.ChangeShapes Go.WideShapes Go.ChangeAt Go.RowKit Go.Deep
/-- What the cells of a type read as, and the numbers in it. -/
def OpensM {H : Type} (enc : TypeId × Value → H) (P : Program) (w : World) (base : Nat) (spare : Nat → Bool) (held : Bool) {α : Type} (t : TypeId) (en : α → List Value) (R : α → Prop) (fl : α → List Int) : Prop :=
 ∀ n cs x, DataW.trod enc P w base spare held n t cs = some x → cnW P t x.1 → ∃ a, cs = en a ∧ R a ∧ (∀ y ∈ fl a, inK .i64 y) ∧ (fl a).length ≤ Rows.uptoBulk x.1
section
variable {H : Type} {enc : TypeId × Value → H} {P : Program} {w : World} {base : Nat} {spare : Nat → Bool} {held : Bool}
theorem openM_int {e : TypeId} (he : P.underlying e = some (.int .i64)) : OpensM enc P w base spare held e (fun a => [.int .i64 a]) (inK .i64) (fun a => [a]) := fun n cs x h _ => by
 obtain ⟨a, h1, h2⟩ := el_int he n cs x h; exact ⟨a, h1, h2, fun y hy => by obtain rfl := List.mem_singleton.1 hy; exact h2, bulk_one _⟩
theorem openM_string {e : TypeId} (he : P.underlying e = some .string) : OpensM enc P w base spare held e (fun a => [.string a]) (fun s => s.size ≤ maxLen) (fun s => (s.size : Int) :: bts s) := fun n cs x h _ => by
 obtain ⟨s, rfl, rfl, hm⟩ := DataW.trod_string he h; refine ⟨s, rfl, hm, fun y hy => ?_, ?_⟩
 ·rcases List.mem_cons.1 hy with rfl | hy
  ·unfold maxLen at hm; simp only [inK]; omega
  ·have := bts_bd y hy; simp only [inK]; omega
 ·simp only [List.length_cons, bts_len, Rows.uptoBulk, Array.length_toList]; exact Nat.le_refl _
theorem sum_bulk {α : Type} {fl : α → List Int} {X : Nat → α} {D : Nat → DataW H} : ∀ (l : List Nat), (∀ i ∈ l, (fl (X i)).length ≤ Rows.uptoBulk (D i)) → ((l.map X).flatMap fl).length ≤ Rows.uptoBulkAll (l.map D)
 | [], _ => by simp [Rows.uptoBulkAll]
 | i :: l, h => by
  have h1 := h i List.mem_cons_self; have h2 := sum_bulk l fun j hj => h j (List.mem_cons_of_mem _ hj); simp only [List.map_cons, List.flatMap_cons, List.length_append, Rows.uptoBulkAll]; omega
theorem openM_slice {α : Type} [Inhabited α] {en : α → List Value} {R : α → Prop} {fl : α → List Int} {sz by_ : Nat} (hlen : ∀ x, (en x).length = sz) (hpos : 0 < sz) {t e : TypeId} (ht : P.underlying t = some (.slice e)) (hsz : P.cellsOf e = sz) (hby : P.bytesOf e = by_)
  (he : OpensM enc P w base spare held e en R fl) : OpensM enc P w base spare held t encS (SOK (memOf w) by_ 0 en R) (fun q => (q.n : Int) :: q.xs.flatMap fl) := by
 intro fuel cs x h hcn; rcases open_slice ht h with ⟨rfl, rfl⟩ | ⟨a, len, cap, m, n, D, Pl, rfl, _, hl, hm, hme, rfl, hi⟩
 ·exact ⟨⟨none, 0, 0, []⟩, rfl, ⟨rfl, Nat.le_refl _, Nat.zero_le _, by simp, fun _ => Nat.zero_le _, Cels.nil, by simp⟩, fun y hy => by obtain rfl := List.mem_singleton.1 hy; exact (show inK .i64 ((0 : Nat) : Int) from ⟨by decide, by decide⟩), bulk_one _⟩
 ·have hlm : len ≤ m := by rw [hme]; split <;> omega
  obtain ⟨hr, hf, hd⟩ := (cnd_w P).slice t e _ _ ht hcn; have hex : ∀ i, i < len → ∃ b : α, (R b ∧ (∀ y ∈ fl b, inK .i64 y) ∧ (fl b).length ≤ Rows.uptoBulk (D i)) ∧ ∀ j, j < sz → w.cell? (a.add (i * sz + j)) = (en b)[j]? := by
   intro i hil; obtain ⟨cs', h1, h2⟩ := hi i (by omega); obtain ⟨b, rfl, hb⟩ := he _ _ _ h2 (hd _ (List.mem_map_of_mem (f := D) (List.mem_range.2 hil))); obtain ⟨_, h4, h5⟩ := World.cells?_some h1; refine ⟨b, hb, fun j hj => ?_⟩; have := h5 j (by rw [hsz]; exact hj); rw [hsz, Go.Deep.add_add] at this; exact this
  obtain ⟨X, hX⟩ := choose_lt hex; have hg : ∀ i, i < len → ((List.range len).map X).getD i default = X i := fun i hi => by simp [hi]
  refine ⟨⟨some a, len, cap, (List.range len).map X⟩, rfl, ⟨by simp, hl, hm, ?_, fun h0 => by simpa using hf h0, ?_, ?_⟩, fun y hy => ?_, ?_⟩
  ·have := hr; rw [hby] at this
   simpa [reachBytes] using this
  ·intro q c hq; have hql : q < len * sz := by
    have := (List.getElem?_eq_some_iff.1 hq).1; rw [flat_len hlen] at this
    simpa using this
   have hi1 : q / sz < len := Nat.div_lt_of_lt_mul (by rw [Nat.mul_comm]; exact hql); have hj1 : q % sz < sz := Nat.mod_lt _ hpos; have hq1 : q / sz * sz + q % sz = q := by rw [Nat.mul_comm]; exact Nat.div_add_mod q sz
   have h1 := flat_at hlen ((List.range len).map X) (q / sz) (q % sz) (by simpa using hi1) hj1; rw [hq1] at h1; have hq' : (((List.range len).map X).flatMap en)[q]? = some c := hq; rw [hq', hg _ hi1] at h1; have h2 := (hX _ hi1).2 _ hj1; rw [hq1, ← h1] at h2; exact cel_of_cell h2
  ·intro b hb; obtain ⟨i, hi', rfl⟩ := List.mem_map.1 hb; exact (hX i (by simpa using hi')).1.1
  ·rcases List.mem_cons.1 hy with rfl | hy
   ·unfold maxLen at hm; simp only [inK]; omega
   ·obtain ⟨b, hb, hy⟩ := List.mem_flatMap.1 hy; obtain ⟨i, hi', rfl⟩ := List.mem_map.1 hb; exact (hX i (by simpa using hi')).1.2.1 y hy
  ·have h1 := sum_bulk (fl := fl) (X := X) (D := D) (List.range len) fun i hi => (hX i (by simpa using hi)).1.2.2; simp only [List.length_cons, Rows.uptoBulk]; omega
theorem trod_structM {t : TypeId} {fs : Array Field} {fuel : Nat} {cs : List Value} {x : DataW H × List MemPlace} (ht : P.underlying t = some (.struct fs)) (h : DataW.trod enc P w base spare held fuel t cs = some x) (hcn : cnW P t x.1) :
  cs.length = P.cellsOf t ∧ ∃ parts : List (DataW H), parts.length = fs.size ∧ Rows.uptoBulkAll parts + 1 = Rows.uptoBulk x.1 ∧ ∀ (i : Nat) (f : Field), fs[i]? = some f → ∃ n y, DataW.trod enc P w base spare held n f.type ((cs.drop f.offset).take (P.cellsOf f.type)) = some y ∧ cnW P f.type y.1 ∧ parts[i]? = some y.1 := by
 obtain ⟨xs, n, _, rfl, hl, hlen, hf⟩ := DataW.trod_struct ht h; refine ⟨hl, xs.map (·.1), by simpa using hlen, by simp [Rows.uptoBulk], fun i f hi => ?_⟩; have h1 := hf i f hi; have hlt : i < xs.length := by rw [hlen]; exact (Array.getElem?_eq_some_iff.1 hi).1
 rw [List.getElem?_eq_getElem hlt] at h1; exact ⟨n, xs[i], h1, (cnd_w P).struct t fs _ ht hcn i f xs[i].1 hi (by simp [hlt]), by simp [hlt]⟩
theorem openM_field {α : Type} {en : α → List Value} {R : α → Prop} {fl : α → List Int} {e : TypeId} (he : OpensM enc P w base spare held e en R fl) {cs cs' : List Value} {n : Nat} {y : DataW H × List MemPlace} {off sz : Nat} (hsz : P.cellsOf e = sz) (h : DataW.trod enc P w base spare held n e ((cs.drop off).take (P.cellsOf e)) = some y) (hcn : cnW P e y.1) (hcs : (cs.drop off).take sz = cs') : ∃ a, cs' = en a ∧ R a ∧ (∀ y ∈ fl a, inK .i64 y) ∧ (fl a).length ≤ Rows.uptoBulk y.1 := by
 rw [hsz, hcs] at h; exact he _ _ _ h hcn
theorem inK_app {xs ys : List Int} (h : ∀ y ∈ xs, inK .i64 y) (h' : ∀ y ∈ ys, inK .i64 y) : ∀ y ∈ xs ++ ys, inK .i64 y := fun y hy => by
 rcases List.mem_append.1 hy with hy | hy
 ·exact h y hy
 ·exact h' y hy
end
end Go.Proofs.YtlkajdcgdoijjaaGreatDoor.K
end
section
set_option linter.unusedVariables false
set_option linter.unusedSimpArgs false
set_option maxRecDepth 100000
namespace Go.Proofs.YtlkajdcgdoijjaaGreatDoor.K
open Go.RowKit

def chOK (i : Nat) (c : Int) : Prop := (97 ≤ c ∧ c ≤ 122) ∨ (0 < i ∧ 48 ≤ c ∧ c ≤ 57)
instance (i : Nat) (c : Int) : Decidable (chOK i c) := by unfold chOK; infer_instance
/-- Is a string a name? -/
def nameOK (s : ByteArray) : Prop := 1 ≤ s.size ∧ s.size ≤ 16 ∧ ∀ i, i < s.size → chOK i (bt s i)
instance (s : ByteArray) : Decidable (nameOK s) := by unfold nameOK; infer_instance
structure FR where
 name : ByteArray
 bits : Int
 low : Int
instance : Inhabited FR := ⟨⟨ByteArray.empty, 0, 0⟩⟩
def encF (f : FR) : List Value := [.string f.name, .int .i64 f.bits, .int .i64 f.low]
theorem encF_len (f : FR) : (encF f).length = 3 := rfl
/-- The number of a field's fault. -/
def fOK (f : FR) : Prop := nameOK f.name ∧ 1 ≤ f.bits ∧ f.bits ≤ 32 ∧ -4294967296 ≤ f.low ∧ f.low ≤ 4294967296
instance (f : FR) : Decidable (fOK f) := by unfold fOK; infer_instance
def fErr (f : FR) : Int := if fOK f then 0 else 3
theorem ch_step {s : ByteArray} {k : Nat} (h : ∀ i, i < k → chOK i (bt s i)) (hk : chOK k (bt s k)) : ∀ i, i < k + 1 → chOK i (bt s i) := by
 intro i hi
 by_cases e : i = k
 ·rw [e]; exact hk
 ·exact h i (by omega)

theorem Name_c {V : Mem} (s : ByteArray) : CallS Tryz.prog 96 [.string s].toArray V [] (fun r L' => r = .bool (decide (nameOK s)) ∧ L' = []) := by
 refine callS Tryz.func96 rfl rfl (fun w0 => ?_); refine s_seq (s_region ?_); refine ov (y_assign (v := .bool _) rfl) (o_nil ?_); refine s_seq ?_; refine s_seq (s_region ?_); refine ov (y_move (v := .string _) rfl) ?_; refine ov (y_len_str Tryz.runUnderlying9 rfl) ?_; refine o_split rfl rfl rfl (y_eql rfl rfl) (fun p1 => ?_) (fun p2 => ?_)
 ·refine ov (y_move (v := .bool _) rfl) ?_; refine gn ?_; refine gn ?_; refine gn ?_; refine ov (y_pick_t (v := .bool _) rfl rfl) (o_nil ?_); refine s_then rfl ?_; refine s_seq (s_region ?_); refine ov (y_assign (v := .bool _) rfl) (o_nil ?_); refine s_ret ?_; exact ⟨_, _, res1 rfl rfl, ⟨congrArg Value.bool (decide_eq_false (fun hh => by have h1 := hh.1; have h2 := hh.2.1; omega)).symm, rfl⟩, sub_front ⟨_, rfl⟩⟩
 ·refine ov (y_move (v := .bool _) rfl) ?_; refine o_guard_yes rfl rfl ?_; refine ov (y_move (v := .string _) rfl) ?_; refine o_guard_yes rfl rfl ?_; refine ov (y_len_str Tryz.runUnderlying9 rfl) ?_; refine o_guard_yes rfl rfl ?_; refine ov (y_gtr rfl rfl) ?_; refine ov (y_pick_f (v := .bool _) rfl rfl) (o_nil ?_); refine s_if rfl (fun h3 => ?_) (fun h4 => ?_)
  ·refine s_seq (s_region ?_); refine ov (y_assign (v := .bool _) rfl) (o_nil ?_); refine s_ret ?_; exact ⟨_, _, res1 rfl rfl, ⟨congrArg Value.bool (decide_eq_false (fun hh => by have h1 := hh.1; have h2 := hh.2.1; omega)).symm, rfl⟩, sub_front ⟨_, rfl⟩⟩
  ·refine s_skip ?_; refine s_seq ?_; refine s_seq (s_region ?_); refine ov (y_move (v := .string _) rfl) ?_; refine ov (y_len_str Tryz.runUnderlying9 rfl) ?_; refine ov (y_move (v := .int _ _) rfl) (o_nil ?_); refine s_block ?_; refine s_loop (γ := Nat) (fun g => [(0, .string s), (14, .int .i64 s.size), (15, .int .i64 g)]) (fun g => []) (fun g => g ≤ s.size ∧ ∀ i, i < g → chOK i (bt s i)) (fun g => s.size - g) (0) ?_ (hz3 trivial) (sub_front ⟨_, rfl⟩) ?_
   ·exact ⟨Nat.zero_le _, fun i hi => absurd hi (Nat.not_lt_zero i)⟩
   ·intro g _f hI; obtain ⟨hg, hall⟩ := hI; have e2 : bt s ((g : Nat) : Int).toNat = bt s g := rfl; refine s_seq (s_region ?_); refine ov (y_lss rfl rfl) (o_nil ?_); refine s_seq ?_; refine s_if rfl (fun h5 => ?_) (fun h6 => ?_)
    ·refine s_skip ?_; refine s_seq ?_; refine s_block ?_; refine s_seq (s_region ?_); refine ov (y_move (v := .int _ _) rfl) ?_; refine ov (y_assign (v := .int _ _) rfl) (o_nil ?_); refine s_seq (s_region ?_); refine ov (y_move (v := .string _) rfl) ?_; refine ov (y_move (v := .int _ _) rfl) ?_; refine ov (y_strIndex Tryz.runUnderlying9 rfl rfl (by omega)) ?_; refine ov (y_assign (v := .int _ _) rfl) (o_nil ?_); refine s_seq (s_region ?_); refine ov (y_move (v := .int _ _) rfl) ?_; refine o_split rfl rfl rfl (y_geq rfl rfl) (fun p7 => ?_) (fun p8 => ?_)
     ·refine ov (y_move (v := .bool _) rfl) ?_; refine o_guard_yes rfl rfl ?_; refine ov (y_move (v := .int _ _) rfl) ?_; refine o_guard_yes rfl rfl ?_; refine o_split rfl rfl rfl (y_leq rfl rfl) (fun p9 => ?_) (fun p10 => ?_)
      ·refine ov (y_pick_t (v := .bool _) rfl rfl) ?_; refine ov (y_move (v := .bool _) rfl) ?_; refine gn ?_; refine gn ?_; refine gn ?_; refine o_guard_un rfl rfl rfl rfl ?_; refine o_guard_un rfl rfl rfl rfl ?_; refine gn ?_; refine gn ?_; refine o_guard_un rfl rfl rfl rfl ?_; refine o_guard_un rfl rfl rfl rfl ?_; refine gn ?_; refine ov (y_pick_t (v := .bool _) rfl rfl) ?_; refine ov (y_notb rfl) (o_nil ?_); refine s_else rfl ?_; refine s_skip ?_; refine s_region ?_; refine ov (y_add rfl rfl (by simp only [inK]; omega)) ?_; refine ov (y_move (v := .int _ _) rfl) (o_nil ?_); exact ⟨g + 1, (by first | omega | (dsimp only; omega)), ⟨by omega, ch_step hall (by have e : ((g : Nat) : Int).toNat = g := rfl; unfold chOK; omega)⟩, ⟨rfl, rfl, (congrArg (Value.int _) (by omega)), trivial⟩, sub_front ⟨_, rfl⟩⟩
      ·refine ov (y_pick_t (v := .bool _) rfl rfl) ?_; refine ov (y_move (v := .bool _) rfl) ?_; refine o_guard_yes rfl rfl ?_; refine ov (y_move (v := .int _ _) rfl) ?_; refine o_guard_yes rfl rfl ?_; refine o_split rfl rfl rfl (y_gtr rfl rfl) (fun p11 => ?_) (fun p12 => ?_)
       ·refine o_guard_yes rfl rfl ?_; refine ov (y_move (v := .bool _) rfl) ?_; refine o_guard_yes rfl rfl ?_; refine ov (y_move (v := .int _ _) rfl) ?_; refine o_guard_yes rfl rfl ?_; refine o_split rfl rfl rfl (y_geq rfl rfl) (fun p13 => ?_) (fun p14 => ?_)
        ·refine o_guard_yes rfl rfl ?_; refine ov (y_pick_t (v := .bool _) rfl rfl) ?_; refine o_guard_yes rfl rfl ?_; refine ov (y_move (v := .bool _) rfl) ?_; refine o_guard_yes rfl rfl ?_; refine ov (y_move (v := .int _ _) rfl) ?_; refine o_guard_yes rfl rfl ?_; refine o_split rfl rfl rfl (y_leq rfl rfl) (fun p15 => ?_) (fun p16 => ?_)
         ·refine o_guard_yes rfl rfl ?_; refine ov (y_pick_t (v := .bool _) rfl rfl) ?_; refine ov (y_pick_f (v := .bool _) rfl rfl) ?_; refine ov (y_notb rfl) (o_nil ?_); refine s_else rfl ?_; refine s_skip ?_; refine s_region ?_; refine ov (y_add rfl rfl (by simp only [inK]; omega)) ?_; refine ov (y_move (v := .int _ _) rfl) (o_nil ?_); exact ⟨g + 1, (by first | omega | (dsimp only; omega)), ⟨by omega, ch_step hall (by have e : ((g : Nat) : Int).toNat = g := rfl; unfold chOK; omega)⟩, ⟨rfl, rfl, (congrArg (Value.int _) (by omega)), trivial⟩, sub_front ⟨_, rfl⟩⟩
         ·refine o_guard_yes rfl rfl ?_; refine ov (y_pick_t (v := .bool _) rfl rfl) ?_; refine ov (y_pick_f (v := .bool _) rfl rfl) ?_; refine ov (y_notb rfl) (o_nil ?_); refine s_then rfl ?_; refine s_seq (s_region ?_); refine ov (y_assign (v := .bool _) rfl) (o_nil ?_); refine s_ret ?_; exact ⟨_, _, res1 rfl rfl, ⟨congrArg Value.bool (decide_eq_false (fun hh => by have := hh.2.2 g (by omega); unfold chOK at this; omega)).symm, rfl⟩, sub_front ⟨_, rfl⟩⟩
        ·refine o_guard_yes rfl rfl ?_; refine ov (y_pick_t (v := .bool _) rfl rfl) ?_; refine o_guard_yes rfl rfl ?_; refine ov (y_move (v := .bool _) rfl) ?_; refine gn ?_; refine gn ?_; refine o_guard_yes rfl rfl ?_; refine ov (y_pick_f (v := .bool _) rfl rfl) ?_; refine ov (y_pick_f (v := .bool _) rfl rfl) ?_; refine ov (y_notb rfl) (o_nil ?_); refine s_then rfl ?_; refine s_seq (s_region ?_); refine ov (y_assign (v := .bool _) rfl) (o_nil ?_); refine s_ret ?_; exact ⟨_, _, res1 rfl rfl, ⟨congrArg Value.bool (decide_eq_false (fun hh => by have := hh.2.2 g (by omega); unfold chOK at this; omega)).symm, rfl⟩, sub_front ⟨_, rfl⟩⟩
       ·refine o_guard_yes rfl rfl ?_; refine ov (y_move (v := .bool _) rfl) ?_; refine gn ?_; refine gn ?_; refine o_guard_yes rfl rfl ?_; refine ov (y_pick_f (v := .bool _) rfl rfl) ?_; refine o_guard_yes rfl rfl ?_; refine ov (y_move (v := .bool _) rfl) ?_; refine gn ?_; refine gn ?_; refine o_guard_yes rfl rfl ?_; refine ov (y_pick_f (v := .bool _) rfl rfl) ?_; refine ov (y_pick_f (v := .bool _) rfl rfl) ?_; refine ov (y_notb rfl) (o_nil ?_); refine s_then rfl ?_; refine s_seq (s_region ?_); refine ov (y_assign (v := .bool _) rfl) (o_nil ?_); refine s_ret ?_; exact ⟨_, _, res1 rfl rfl, ⟨congrArg Value.bool (decide_eq_false (fun hh => by have := hh.2.2 g (by omega); unfold chOK at this; omega)).symm, rfl⟩, sub_front ⟨_, rfl⟩⟩
     ·refine ov (y_move (v := .bool _) rfl) ?_; refine gn ?_; refine gn ?_; refine ov (y_pick_f (v := .bool _) rfl rfl) ?_; refine ov (y_move (v := .bool _) rfl) ?_; refine o_guard_yes rfl rfl ?_; refine ov (y_move (v := .int _ _) rfl) ?_; refine o_guard_yes rfl rfl ?_; refine o_split rfl rfl rfl (y_gtr rfl rfl) (fun p17 => ?_) (fun p18 => ?_)
      ·refine o_guard_yes rfl rfl ?_; refine ov (y_move (v := .bool _) rfl) ?_; refine o_guard_yes rfl rfl ?_; refine ov (y_move (v := .int _ _) rfl) ?_; refine o_guard_yes rfl rfl ?_; refine o_split rfl rfl rfl (y_geq rfl rfl) (fun p19 => ?_) (fun p20 => ?_)
       ·refine o_guard_yes rfl rfl ?_; refine ov (y_pick_t (v := .bool _) rfl rfl) ?_; refine o_guard_yes rfl rfl ?_; refine ov (y_move (v := .bool _) rfl) ?_; refine o_guard_yes rfl rfl ?_; refine ov (y_move (v := .int _ _) rfl) ?_; refine o_guard_yes rfl rfl ?_; refine o_split rfl rfl rfl (y_leq rfl rfl) (fun p21 => ?_) (fun p22 => ?_)
        ·refine o_guard_yes rfl rfl ?_; refine ov (y_pick_t (v := .bool _) rfl rfl) ?_; refine ov (y_pick_f (v := .bool _) rfl rfl) ?_; refine ov (y_notb rfl) (o_nil ?_); refine s_else rfl ?_; refine s_skip ?_; refine s_region ?_; refine ov (y_add rfl rfl (by simp only [inK]; omega)) ?_; refine ov (y_move (v := .int _ _) rfl) (o_nil ?_); exact ⟨g + 1, (by first | omega | (dsimp only; omega)), ⟨by omega, ch_step hall (by have e : ((g : Nat) : Int).toNat = g := rfl; unfold chOK; omega)⟩, ⟨rfl, rfl, (congrArg (Value.int _) (by omega)), trivial⟩, sub_front ⟨_, rfl⟩⟩
        ·refine o_guard_yes rfl rfl ?_; refine ov (y_pick_t (v := .bool _) rfl rfl) ?_; refine ov (y_pick_f (v := .bool _) rfl rfl) ?_; refine ov (y_notb rfl) (o_nil ?_); refine s_then rfl ?_; refine s_seq (s_region ?_); refine ov (y_assign (v := .bool _) rfl) (o_nil ?_); refine s_ret ?_; exact ⟨_, _, res1 rfl rfl, ⟨congrArg Value.bool (decide_eq_false (fun hh => by have := hh.2.2 g (by omega); unfold chOK at this; omega)).symm, rfl⟩, sub_front ⟨_, rfl⟩⟩
       ·refine o_guard_yes rfl rfl ?_; refine ov (y_pick_t (v := .bool _) rfl rfl) ?_; refine o_guard_yes rfl rfl ?_; refine ov (y_move (v := .bool _) rfl) ?_; refine gn ?_; refine gn ?_; refine o_guard_yes rfl rfl ?_; refine ov (y_pick_f (v := .bool _) rfl rfl) ?_; refine ov (y_pick_f (v := .bool _) rfl rfl) ?_; refine ov (y_notb rfl) (o_nil ?_); refine s_then rfl ?_; refine s_seq (s_region ?_); refine ov (y_assign (v := .bool _) rfl) (o_nil ?_); refine s_ret ?_; exact ⟨_, _, res1 rfl rfl, ⟨congrArg Value.bool (decide_eq_false (fun hh => by have := hh.2.2 g (by omega); unfold chOK at this; omega)).symm, rfl⟩, sub_front ⟨_, rfl⟩⟩
      ·refine o_guard_yes rfl rfl ?_; refine ov (y_move (v := .bool _) rfl) ?_; refine gn ?_; refine gn ?_; refine o_guard_yes rfl rfl ?_; refine ov (y_pick_f (v := .bool _) rfl rfl) ?_; refine o_guard_yes rfl rfl ?_; refine ov (y_move (v := .bool _) rfl) ?_; refine gn ?_; refine gn ?_; refine o_guard_yes rfl rfl ?_; refine ov (y_pick_f (v := .bool _) rfl rfl) ?_; refine ov (y_pick_f (v := .bool _) rfl rfl) ?_; refine ov (y_notb rfl) (o_nil ?_); refine s_then rfl ?_; refine s_seq (s_region ?_); refine ov (y_assign (v := .bool _) rfl) (o_nil ?_); refine s_ret ?_; exact ⟨_, _, res1 rfl rfl, ⟨congrArg Value.bool (decide_eq_false (fun hh => by have := hh.2.2 g (by omega); unfold chOK at this; omega)).symm, rfl⟩, sub_front ⟨_, rfl⟩⟩
    ·refine s_exit ?_; refine s_seq (s_region ?_); refine ov (y_assign (v := .bool _) rfl) (o_nil ?_); refine s_ret ?_; exact ⟨_, _, res1 rfl rfl, ⟨congrArg Value.bool (decide_eq_true (⟨by omega, by omega, fun i hi => hall i (by omega)⟩ : nameOK s)).symm, rfl⟩, sub_front ⟨_, rfl⟩⟩

structure KR where
 name : ByteArray
 A : Option Addr
 n : Nat
 c : Nat
 fs : List FR
instance : Inhabited KR := ⟨⟨ByteArray.empty, none, 0, 0, []⟩⟩
def encK (k : KR) : List Value := [.string k.name, .slice k.A k.n k.c]
theorem encK_len (k : KR) : (encK k).length = 2 := rfl
/-- A kind's fields lie where it says. -/
def KOK (V : Mem) (k : KR) : Prop := k.fs.length = k.n ∧ k.n ≤ k.c ∧ k.n ≤ 4398046511104 ∧ Cels V [] k.A (k.fs.flatMap encF)
/-- The first place of a name among kinds, or -1. -/
def FindOK (ks : List KR) (nm : ByteArray) (r : Int) : Prop := (r = -1 ∧ ∀ j, j < ks.length → (ks.getD j default).name ≠ nm) ∨ (∃ j : Nat, r = j ∧ j < ks.length ∧ (ks.getD j default).name = nm ∧ ∀ i, i < j → (ks.getD i default).name ≠ nm)

theorem field_c {V : Mem} (f : FR) : CallS Tryz.prog 166 [.agg #[.string f.name, .int .i64 f.bits, .int .i64 f.low]].toArray V [] (fun r L' => r = .int .i64 (fErr f) ∧ L' = []) := by
 refine callS Tryz.func166 rfl rfl (fun w0 => ?_); refine s_seq (s_region ?_); refine o_box (v := (.agg #[(.string _), (.int _ _), (.int _ _)])) rfl rfl rfl (fun b1 => ?_); refine ov (y_assign (v := .int _ _) rfl) (o_nil ?_); refine s_seq ?_; refine s_seq (s_region ?_); refine ov (y_field0 (F := 0) Tryz.runUnderlying75 rfl Tryz.sizeOf9 rfl rfl) ?_; refine ov (y_load Tryz.isAgg9 rfl (cel_own 0 rfl rfl)) ?_; refine o_fn 0 (d := 5) rfl Tryz.call96 (Name_c _) rfl ?_; rintro _ _ ⟨rfl, rfl⟩; refine o_split rfl rfl rfl (y_not rfl) (fun p2 => ?_) (fun p3 => ?_)
 ·refine ov (y_move (v := .bool _) rfl) ?_; refine gn ?_; refine gn ?_; refine gn ?_; refine ov (y_pick_t (v := .bool _) rfl rfl) ?_; refine ov (y_move (v := .bool _) rfl) ?_; refine gn ?_; refine gn ?_; refine gn ?_; refine ov (y_pick_t (v := .bool _) rfl rfl) ?_; refine ov (y_move (v := .bool _) rfl) ?_; refine gn ?_; refine gn ?_; refine gn ?_; refine ov (y_pick_t (v := .bool _) rfl rfl) ?_; refine ov (y_move (v := .bool _) rfl) ?_; refine gn ?_; refine gn ?_; refine gn ?_; refine ov (y_pick_t (v := .bool _) rfl rfl) (o_nil ?_); refine s_then rfl ?_; refine s_seq (s_region ?_); refine ov (y_assign (v := .int _ _) rfl) (o_nil ?_); refine s_ret ?_; exact ⟨_, _, res1 rfl rfl, ⟨congrArg (Value.int .i64) (by unfold fErr; split <;> rename_i hh <;> unfold fOK at hh <;> first | rfl | (exfalso; first | exact absurd hh.1 (by assumption) | (have := hh.2; omega) | (apply hh; exact ⟨Decidable.not_not.1 (by assumption), by omega, by omega, by omega, by omega⟩))), rfl⟩, sub_front ⟨_, rfl⟩⟩
 ·refine ov (y_move (v := .bool _) rfl) ?_; refine o_guard_yes rfl rfl ?_; refine ov (y_field0 (F := 1) Tryz.runUnderlying75 rfl Tryz.sizeOf3 rfl rfl) ?_; refine o_guard_yes rfl rfl ?_; refine ov (y_load Tryz.isAgg3 rfl (cel_own 0 rfl rfl)) ?_; refine o_guard_yes rfl rfl ?_; refine o_split rfl rfl rfl (y_lss rfl rfl) (fun p4 => ?_) (fun p5 => ?_)
  ·refine ov (y_pick_f (v := .bool _) rfl rfl) ?_; refine ov (y_move (v := .bool _) rfl) ?_; refine gn ?_; refine gn ?_; refine gn ?_; refine ov (y_pick_t (v := .bool _) rfl rfl) ?_; refine ov (y_move (v := .bool _) rfl) ?_; refine gn ?_; refine gn ?_; refine gn ?_; refine ov (y_pick_t (v := .bool _) rfl rfl) ?_; refine ov (y_move (v := .bool _) rfl) ?_; refine gn ?_; refine gn ?_; refine gn ?_; refine ov (y_pick_t (v := .bool _) rfl rfl) (o_nil ?_); refine s_then rfl ?_; refine s_seq (s_region ?_); refine ov (y_assign (v := .int _ _) rfl) (o_nil ?_); refine s_ret ?_; exact ⟨_, _, res1 rfl rfl, ⟨congrArg (Value.int .i64) (by unfold fErr; split <;> rename_i hh <;> unfold fOK at hh <;> first | rfl | (exfalso; first | exact absurd hh.1 (by assumption) | (have := hh.2; omega) | (apply hh; exact ⟨Decidable.not_not.1 (by assumption), by omega, by omega, by omega, by omega⟩))), rfl⟩, sub_front ⟨_, rfl⟩⟩
  ·refine ov (y_pick_f (v := .bool _) rfl rfl) ?_; refine ov (y_move (v := .bool _) rfl) ?_; refine o_guard_yes rfl rfl ?_; refine ov (y_field0 (F := 1) Tryz.runUnderlying75 rfl Tryz.sizeOf3 rfl rfl) ?_; refine o_guard_yes rfl rfl ?_; refine ov (y_load Tryz.isAgg3 rfl (cel_own 0 rfl rfl)) ?_; refine o_guard_yes rfl rfl ?_; refine o_split rfl rfl rfl (y_gtr rfl rfl) (fun p6 => ?_) (fun p7 => ?_)
   ·refine ov (y_pick_f (v := .bool _) rfl rfl) ?_; refine ov (y_move (v := .bool _) rfl) ?_; refine gn ?_; refine gn ?_; refine gn ?_; refine ov (y_pick_t (v := .bool _) rfl rfl) ?_; refine ov (y_move (v := .bool _) rfl) ?_; refine gn ?_; refine gn ?_; refine gn ?_; refine ov (y_pick_t (v := .bool _) rfl rfl) (o_nil ?_); refine s_then rfl ?_; refine s_seq (s_region ?_); refine ov (y_assign (v := .int _ _) rfl) (o_nil ?_); refine s_ret ?_; exact ⟨_, _, res1 rfl rfl, ⟨congrArg (Value.int .i64) (by unfold fErr; split <;> rename_i hh <;> unfold fOK at hh <;> first | rfl | (exfalso; first | exact absurd hh.1 (by assumption) | (have := hh.2; omega) | (apply hh; exact ⟨Decidable.not_not.1 (by assumption), by omega, by omega, by omega, by omega⟩))), rfl⟩, sub_front ⟨_, rfl⟩⟩
   ·refine ov (y_pick_f (v := .bool _) rfl rfl) ?_; refine ov (y_move (v := .bool _) rfl) ?_; refine o_guard_yes rfl rfl ?_; refine ov (y_field0 (F := 2) Tryz.runUnderlying75 rfl Tryz.sizeOf3 rfl rfl) ?_; refine o_guard_yes rfl rfl ?_; refine ov (y_load Tryz.isAgg3 rfl (cel_own 0 rfl rfl)) ?_; refine o_guard_yes rfl rfl ?_; refine o_split rfl rfl rfl (y_lss rfl rfl) (fun p8 => ?_) (fun p9 => ?_)
    ·refine ov (y_pick_f (v := .bool _) rfl rfl) ?_; refine ov (y_move (v := .bool _) rfl) ?_; refine gn ?_; refine gn ?_; refine gn ?_; refine ov (y_pick_t (v := .bool _) rfl rfl) (o_nil ?_); refine s_then rfl ?_; refine s_seq (s_region ?_); refine ov (y_assign (v := .int _ _) rfl) (o_nil ?_); refine s_ret ?_; exact ⟨_, _, res1 rfl rfl, ⟨congrArg (Value.int .i64) (by unfold fErr; split <;> rename_i hh <;> unfold fOK at hh <;> first | rfl | (exfalso; first | exact absurd hh.1 (by assumption) | (have := hh.2; omega) | (apply hh; exact ⟨Decidable.not_not.1 (by assumption), by omega, by omega, by omega, by omega⟩))), rfl⟩, sub_front ⟨_, rfl⟩⟩
    ·refine ov (y_pick_f (v := .bool _) rfl rfl) ?_; refine ov (y_move (v := .bool _) rfl) ?_; refine o_guard_yes rfl rfl ?_; refine ov (y_field0 (F := 2) Tryz.runUnderlying75 rfl Tryz.sizeOf3 rfl rfl) ?_; refine o_guard_yes rfl rfl ?_; refine ov (y_load Tryz.isAgg3 rfl (cel_own 0 rfl rfl)) ?_; refine o_guard_yes rfl rfl ?_; refine ov (y_gtr rfl rfl) ?_; refine ov (y_pick_f (v := .bool _) rfl rfl) (o_nil ?_); refine s_if rfl (fun h10 => ?_) (fun h11 => ?_)
     ·refine s_seq (s_region ?_); refine ov (y_assign (v := .int _ _) rfl) (o_nil ?_); refine s_ret ?_; exact ⟨_, _, res1 rfl rfl, ⟨congrArg (Value.int .i64) (by unfold fErr; split <;> rename_i hh <;> unfold fOK at hh <;> first | rfl | (exfalso; first | exact absurd hh.1 (by assumption) | (have := hh.2; omega) | (apply hh; exact ⟨Decidable.not_not.1 (by assumption), by omega, by omega, by omega, by omega⟩))), rfl⟩, sub_front ⟨_, rfl⟩⟩
     ·refine s_skip ?_; refine s_seq (s_region ?_); refine ov (y_assign (v := .int _ _) rfl) (o_nil ?_); refine s_ret ?_; exact ⟨_, _, res1 rfl rfl, ⟨congrArg (Value.int .i64) (by unfold fErr; split <;> rename_i hh <;> unfold fOK at hh <;> first | rfl | (exfalso; first | exact absurd hh.1 (by assumption) | (have := hh.2; omega) | (apply hh; exact ⟨Decidable.not_not.1 (by assumption), by omega, by omega, by omega, by omega⟩))), rfl⟩, sub_front ⟨_, rfl⟩⟩

theorem FindK_c {V : Mem} (A : Option Addr) (n c : Nat) (ks : List KR) (h : Cels V [] A (ks.flatMap encK)) (hn : ks.length = n) (hb : n ≤ 140737488355328) (nm : ByteArray) : CallS Tryz.prog 107 [.slice A n c, .string nm].toArray V [] (fun r L' => ∃ k, r = .int .i64 k ∧ FindOK ks nm k ∧ L' = []) := by
 refine callS Tryz.func107 rfl rfl (fun w0 => ?_); refine s_seq (s_region ?_); refine ov (y_assign (v := .int _ _) rfl) (o_nil ?_); refine s_seq ?_; refine s_seq (s_region ?_); refine ov (y_move (v := .slice _ _ _) rfl) ?_; refine ov (y_len Tryz.runUnderlying23 rfl) ?_; refine ov (y_move (v := .int _ _) rfl) (o_nil ?_); refine s_block ?_; refine s_loop (γ := Nat) (fun g => [(1, .string nm), (7, .slice A n c), (8, .int .i64 n), (9, .int .i64 g)]) (fun g => []) (fun g => g ≤ n ∧ ∀ j, j < g → (ks.getD j default).name ≠ nm) (fun g => n - g) (0) ?_ (hz4 trivial) (sub_front ⟨_, rfl⟩) ?_
 ·exact ⟨Nat.zero_le _, fun j hj => absurd hj (Nat.not_lt_zero j)⟩
 ·intro g _f hI; obtain ⟨hg, hall⟩ := hI; refine s_seq (s_region ?_); refine ov (y_lss rfl rfl) (o_nil ?_); refine s_seq ?_; refine s_if rfl (fun h1 => ?_) (fun h2 => ?_)
  ·refine s_skip ?_; refine s_seq ?_; refine s_block ?_; refine s_seq (s_region ?_); refine ov (y_move (v := .int _ _) rfl) ?_; refine ov (y_indexAddr Tryz.runUnderlying23 Tryz.sizeOf79 (some_at (sz := 1) encK_len (i := 0) h (by omega)) rfl rfl (by omega)) ?_; refine ov (y_loads (cs := [_, _]) Tryz.isAgg79 Tryz.sizeOf79 rfl (by unfold idx; rw [Option.isSome_map]; exact some_at (sz := 1) encK_len (i := 0) h (by omega)) rfl (cels_at (sz := 2) encK_len h.here (by omega))) ?_; refine o_alloc rfl Tryz.zeroValue79 rfl (fun b3 => ?_); refine ov (y_assign (v := .int _ _) rfl) ?_; refine o_stores (vs := [(.string _), (.slice _ _ _)]) 0 rfl Tryz.sizeOf79 rfl rfl rfl (by simp [Value.oneCell']) (by simp) (o_nil ?_); refine s_seq (s_region ?_); refine ov (y_field0 (F := 0) Tryz.runUnderlying79 rfl Tryz.sizeOf9 rfl rfl) ?_; refine ov (y_load Tryz.isAgg9 rfl (cel_own 0 rfl rfl)) ?_; refine ov (y_move (v := .string _) rfl) ?_; refine ov (y_eql_str rfl rfl) (o_nil ?_); refine s_if rfl (fun h4 => ?_) (fun h5 => ?_)
   ·refine s_seq (s_region ?_); refine ov (y_move (v := .int _ _) rfl) ?_; refine ov (y_assign (v := .int _ _) rfl) (o_nil ?_); refine s_ret ?_; exact ⟨_, _, res1 rfl rfl, ⟨_, rfl, .inr ⟨g, rfl, by omega, by assumption, hall⟩, rfl⟩, sub_front ⟨_, rfl⟩⟩
   ·refine s_skip ?_; refine s_region ?_; refine ov (y_add rfl rfl (by simp only [inK]; omega)) ?_; refine ov (y_move (v := .int _ _) rfl) (o_nil ?_); exact ⟨g + 1, (by first | omega | (dsimp only; omega)), ⟨by omega, fun j hj => if e : j = g then by (rw [e]; assumption) else hall j (by omega)⟩, ⟨rfl, rfl, rfl, (congrArg (Value.int _) (by omega)), trivial⟩, sub_front ⟨_, rfl⟩⟩
  ·refine s_exit ?_; refine s_seq (s_region ?_); refine ov (y_assign (v := .int _ _) rfl) (o_nil ?_); refine s_ret ?_; exact ⟨_, _, res1 rfl rfl, ⟨_, rfl, .inl ⟨rfl, fun j hj => hall j (by omega)⟩, rfl⟩, sub_front ⟨_, rfl⟩⟩

def dup (fs : List FR) (k : Nat) : Prop := ∃ j, j < k ∧ (fs.getD j default).name = (fs.getD k default).name
instance (fs : List FR) (k : Nat) : Decidable (dup fs k) := by unfold dup; infer_instance
/-- The first fault among the first fields. -/
def oneTo (fs : List FR) : Nat → Int
 | 0 => 0
 | k + 1 => if oneTo fs k ≠ 0 then oneTo fs k else if fErr (fs.getD k default) ≠ 0 then fErr (fs.getD k default) else if dup fs k then 5 else 0
theorem oneTo_stay {fs : List FR} {k : Nat} (h : oneTo fs k ≠ 0) : ∀ {n : Nat}, k ≤ n → oneTo fs n = oneTo fs k
 | 0, hn => by rw [show k = 0 by omega]
 | n + 1, hn => by
  by_cases e : k = n + 1
  ·rw [e]
  ·have ih := oneTo_stay h (show k ≤ n by omega); simp only [oneTo]; rw [if_pos (by rw [ih]; exact h), ih]
def oneErr (k : KR) : Int := if ¬ nameOK k.name then 3 else if 8 < k.fs.length then 2 else oneTo k.fs k.fs.length
theorem one_bad {fs : List FR} {k n : Nat} (h0 : oneTo fs k = 0) (h : fErr (fs.getD k default) ≠ 0) (hn : k < n) : fErr (fs.getD k default) = oneTo fs n := by
 have e : oneTo fs (k + 1) = fErr (fs.getD k default) := by simp only [oneTo]; rw [if_neg (fun hh => hh h0), if_pos h]
 rw [oneTo_stay (k := k + 1) (by rw [e]; exact h) (by omega), e]
theorem one_dup {fs : List FR} {k n : Nat} (h0 : oneTo fs k = 0) (h : ¬ fErr (fs.getD k default) ≠ 0) (hd : dup fs k) (hn : k < n) : (5 : Int) = oneTo fs n := by
 have e : oneTo fs (k + 1) = 5 := by simp only [oneTo]; rw [if_neg (fun hh => hh h0), if_neg h, if_pos hd]
 rw [oneTo_stay (k := k + 1) (by rw [e]; decide) (by omega), e]
theorem one_next {fs : List FR} {k : Nat} (h0 : oneTo fs k = 0) (h : ¬ fErr (fs.getD k default) ≠ 0) (hd : ¬ dup fs k) : oneTo fs (k + 1) = 0 := by
 simp only [oneTo]; rw [if_neg (fun hh => hh h0), if_neg h, if_neg hd]
theorem cels_flat_take {α : Type} {enc : α → List Value} {V : Mem} {L : List Grp} {A : Option Addr} {xs : List α} (h : Cels V L A (xs.flatMap enc)) (n : Nat) : Cels V L A ((xs.take n).flatMap enc) := by
 have := h.sub 0 (ds := (xs.take n).flatMap enc) (fun i c hi => by
  have e : xs.flatMap enc = (xs.take n).flatMap enc ++ (xs.drop n).flatMap enc := by rw [← List.flatMap_append, List.take_append_drop]
  rw [Nat.zero_add, e, List.getElem?_append_left (List.getElem?_eq_some_iff.1 hi).1]; exact hi)
 rwa [idx_zero] at this
theorem take_getD {α : Type} {xs : List α} {d : α} {n j : Nat} (h : j < n) : (xs.take n).getD j d = xs.getD j d := by
 rw [List.getD_eq_getElem?_getD, List.getD_eq_getElem?_getD, List.getElem?_take, if_pos h]

theorem One_c {V : Mem} (k : KR) (hk : KOK V k) : CallS Tryz.prog 106 [.agg #[.string k.name, .slice k.A k.n k.c]].toArray V [] (fun r L' => r = .int .i64 (oneErr k) ∧ L' = []) := by
 have hf := hk.2.2.2; have hfl := hk.1; have hkc := hk.2.1; refine callS Tryz.func106 rfl rfl (fun w0 => ?_); refine s_seq (s_region ?_); refine o_box (v := (.agg #[(.string _), (.slice _ _ _)])) rfl rfl rfl (fun b1 => ?_); refine ov (y_assign (v := .int _ _) rfl) (o_nil ?_); refine s_seq ?_; refine s_seq (s_region ?_); refine ov (y_field0 (F := 0) Tryz.runUnderlying79 rfl Tryz.sizeOf9 rfl rfl) ?_; refine ov (y_load Tryz.isAgg9 rfl (cel_own 0 rfl rfl)) ?_; refine o_fn 0 (d := 10) rfl Tryz.call96 (Name_c _) rfl ?_; rintro _ _ ⟨rfl, rfl⟩; refine ov (y_not rfl) (o_nil ?_); refine s_if rfl (fun h2 => ?_) (fun h3 => ?_)
 ·have hbad := h2; refine s_seq (s_region ?_); refine ov (y_assign (v := .int _ _) rfl) (o_nil ?_); refine s_ret ?_; exact ⟨_, _, res1 rfl rfl, ⟨congrArg (Value.int .i64) (by unfold oneErr; rw [if_pos hbad]), rfl⟩, sub_front ⟨_, rfl⟩⟩
 ·have hnm : nameOK k.name := Decidable.not_not.1 h3; refine s_skip ?_; refine s_seq ?_; refine s_seq (s_region ?_); refine ov (y_field0 (F := 1) Tryz.runUnderlying79 rfl Tryz.sizeOf77 rfl rfl) ?_; refine ov (y_load Tryz.isAgg77 rfl (cel_own 0 rfl rfl)) ?_; refine ov (y_len Tryz.runUnderlying77 rfl) ?_; refine ov (y_gtr rfl rfl) (o_nil ?_); refine s_if rfl (fun h4 => ?_) (fun h5 => ?_)
  ·have hbig := h4; refine s_seq (s_region ?_); refine ov (y_assign (v := .int _ _) rfl) (o_nil ?_); refine s_ret ?_; exact ⟨_, _, res1 rfl rfl, ⟨congrArg (Value.int .i64) (by unfold oneErr; rw [if_neg (fun hh => hh hnm), if_pos (by omega)]), rfl⟩, sub_front ⟨_, rfl⟩⟩
  ·have hsm := h5; refine s_skip ?_; refine s_seq ?_; refine s_seq (s_region ?_); refine ov (y_field0 (F := 1) Tryz.runUnderlying79 rfl Tryz.sizeOf77 rfl rfl) ?_; refine ov (y_load Tryz.isAgg77 rfl (cel_own 0 rfl rfl)) ?_; refine ov (y_len Tryz.runUnderlying77 rfl) ?_; refine ov (y_move (v := .int _ _) rfl) (o_nil ?_); refine s_block ?_; refine s_loop (γ := Nat) (fun g => [(1, .pointer (some ⟨b1, 0, none⟩)), (17, .slice k.A k.n k.c), (18, .int .i64 k.n), (19, .int .i64 g)]) (fun g => [(cB [.string k.name, .slice k.A k.n k.c] 79 b1)]) (fun g => g ≤ k.n ∧ oneTo k.fs g = 0) (fun g => k.n - g) (0) ?_ (hz4 trivial) (sub_front ⟨_, rfl⟩) ?_
   ·exact ⟨Nat.zero_le _, rfl⟩
   ·intro g _f hI; obtain ⟨hg, h0⟩ := hI; refine s_seq (s_region ?_); refine ov (y_lss rfl rfl) (o_nil ?_); refine s_seq ?_; refine s_if rfl (fun h6 => ?_) (fun h7 => ?_)
    ·refine s_skip ?_; refine s_seq ?_; refine s_block ?_; refine s_seq (s_region ?_); refine ov (y_move (v := .int _ _) rfl) ?_; refine ov (y_indexAddr Tryz.runUnderlying77 Tryz.sizeOf75 (some_at (sz := 2) encF_len (i := 0) hf (by omega)) rfl rfl (by omega)) ?_; refine ov (y_loads (cs := [_, _, _]) Tryz.isAgg75 Tryz.sizeOf75 rfl (by unfold idx; rw [Option.isSome_map]; exact some_at (sz := 2) encF_len (i := 0) hf (by omega)) rfl (cels_at (sz := 3) encF_len hf.here (by omega))) ?_; refine o_alloc rfl Tryz.zeroValue75 rfl (fun b8 => ?_); refine ov (y_assign (v := .int _ _) rfl) ?_; refine o_stores (vs := [(.string _), (.int _ _), (.int _ _)]) 1 rfl Tryz.sizeOf75 rfl rfl rfl (by simp [Value.oneCell']) (by simp) (o_nil ?_); refine s_seq ?_; refine s_seq (s_region ?_); refine ov (y_loads (cs := [_, _, _]) Tryz.isAgg75 Tryz.sizeOf75 rfl rfl rfl (cels_own 1 rfl rfl)) ?_; refine o_fn 0 (d := 25) rfl Tryz.call166 (field_c (k.fs.getD g default)) rfl ?_; rintro _ _ ⟨rfl, rfl⟩; refine ov (y_assign (v := .int _ _) rfl) (o_nil ?_); refine s_seq (s_region ?_); refine ov (y_move (v := .int _ _) rfl) ?_; refine ov (y_neq rfl rfl) (o_nil ?_); refine s_if rfl (fun h9 => ?_) (fun h10 => ?_)
     ·have hfe := h9; refine s_seq (s_region ?_); refine ov (y_move (v := .int _ _) rfl) ?_; refine ov (y_assign (v := .int _ _) rfl) (o_nil ?_); refine s_ret ?_; exact ⟨_, _, res1 rfl rfl, ⟨congrArg (Value.int .i64) (by unfold oneErr; rw [if_neg (fun hh => hh hnm), if_neg (by omega)]; exact one_bad h0 hfe (by omega)), rfl⟩, sub_front ⟨_, rfl⟩⟩
     ·have hfe := h10; refine s_skip ?_; refine s_seq (s_region ?_); refine ov (y_field0 (F := 1) Tryz.runUnderlying79 rfl Tryz.sizeOf77 rfl rfl) ?_; refine ov (y_load Tryz.isAgg77 rfl (cel_own 0 rfl rfl)) ?_; refine ov (y_move (v := .int _ _) rfl) ?_; refine ov (y_cut_hi Tryz.runUnderlying77 Tryz.sizeOf75 rfl rfl (by omega)) ?_; have hp := cels_flat_take hf g; have htl : (k.fs.take g).length = g := by rw [List.length_take]; omega
      refine ov (y_len Tryz.runUnderlying77 rfl) ?_; refine ov (y_move (v := .int _ _) rfl) (o_nil ?_); refine s_block ?_; refine s_loop (γ := Nat) (fun u => [(1, .pointer (some ⟨b1, 0, none⟩)), (4, .pointer (some ⟨b8, 0, none⟩)), (17, .slice k.A k.n k.c), (18, .int .i64 k.n), (19, .int .i64 g), (32, .slice k.A g k.c), (33, .int .i64 g), (34, .int .i64 u)]) (fun u => [(cB [.string k.name, .slice k.A k.n k.c] 79 b1), (cB [.string (k.fs.getD g default).name, .int .i64 (k.fs.getD g default).bits, .int .i64 (k.fs.getD g default).low] 75 b8)]) (fun u => u ≤ g ∧ ∀ j, j < u → (k.fs.getD j default).name ≠ (k.fs.getD g default).name) (fun u => g - u) (0) ?_ (hz8 trivial) (sub_front ⟨_, rfl⟩) ?_
      ·exact ⟨Nat.zero_le _, fun j hj => absurd hj (Nat.not_lt_zero j)⟩
      ·intro u _f hJ; obtain ⟨hu, hall⟩ := hJ; refine s_seq (s_region ?_); refine ov (y_lss rfl rfl) (o_nil ?_); refine s_seq ?_; refine s_if rfl (fun h11 => ?_) (fun h12 => ?_)
       ·refine s_skip ?_; refine s_seq ?_; refine s_block ?_; refine s_seq (s_region ?_); refine ov (y_indexAddr Tryz.runUnderlying77 Tryz.sizeOf75 (some_at (sz := 2) encF_len (i := 0) hp (by omega)) rfl rfl (by omega)) ?_; refine ov (y_loads (cs := [_, _, _]) Tryz.isAgg75 Tryz.sizeOf75 rfl (by unfold idx; rw [Option.isSome_map]; exact some_at (sz := 2) encF_len (i := 0) hp (by omega)) rfl (cels_at (sz := 3) encF_len hp.here (by omega))) ?_; refine o_alloc rfl Tryz.zeroValue75 rfl (fun b13 => ?_); refine o_stores (vs := [(.string _), (.int _ _), (.int _ _)]) 2 rfl Tryz.sizeOf75 rfl rfl rfl (by simp [Value.oneCell']) (by simp) (o_nil ?_); refine s_seq (s_region ?_); refine ov (y_field0 (F := 0) Tryz.runUnderlying75 rfl Tryz.sizeOf9 rfl rfl) ?_; refine ov (y_load Tryz.isAgg9 rfl (cel_own 2 rfl rfl)) ?_; refine ov (y_field0 (F := 0) Tryz.runUnderlying75 rfl Tryz.sizeOf9 rfl rfl) ?_; refine ov (y_load Tryz.isAgg9 rfl (cel_own 1 rfl rfl)) ?_; refine ov (y_eql_str rfl rfl) (o_nil ?_); refine s_if rfl (fun h14 => ?_) (fun h15 => ?_)
        ·have heq := h14; refine s_seq (s_region ?_); refine ov (y_assign (v := .int _ _) rfl) (o_nil ?_); refine s_ret ?_; exact ⟨_, _, res1 rfl rfl, ⟨congrArg (Value.int .i64) (by unfold oneErr; rw [if_neg (fun hh => hh hnm), if_neg (by omega)]; exact one_dup h0 hfe ⟨u, by omega, by rw [← take_getD (n := g) (by omega)]; exact heq⟩ (by omega)), rfl⟩, sub_front ⟨_, rfl⟩⟩
        ·have heq := h15; refine s_skip ?_; refine s_region ?_; refine ov (y_add rfl rfl (by simp only [inK]; omega)) ?_; refine ov (y_move (v := .int _ _) rfl) (o_nil ?_); exact ⟨u + 1, (by first | omega | (dsimp only; omega)), ⟨by omega, fun j hj => if e : j = u then (by rw [e, ← take_getD (n := g) (by omega)]; exact heq) else hall j (by omega)⟩, ⟨rfl, rfl, rfl, rfl, rfl, rfl, rfl, (congrArg (Value.int _) (by omega)), trivial⟩, sub_front ⟨_, rfl⟩⟩
       ·refine s_exit ?_; refine s_region ?_; refine ov (y_add rfl rfl (by simp only [inK]; omega)) ?_; refine ov (y_move (v := .int _ _) rfl) (o_nil ?_); exact ⟨g + 1, (by first | omega | (dsimp only; omega)), ⟨by omega, one_next h0 hfe (fun hd => by obtain ⟨j, hj, hh⟩ := hd; exact hall j (by omega) hh)⟩, ⟨rfl, rfl, rfl, (congrArg (Value.int _) (by omega)), trivial⟩, sub_front ⟨_, rfl⟩⟩
    ·refine s_exit ?_; refine s_seq (s_region ?_); refine ov (y_assign (v := .int _ _) rfl) (o_nil ?_); refine s_ret ?_; exact ⟨_, _, res1 rfl rfl, ⟨congrArg (Value.int .i64) (by unfold oneErr; rw [if_neg (fun hh => hh hnm), if_neg (by omega), hfl, ← show g = k.n by omega]; exact h0.symm), rfl⟩, sub_front ⟨_, rfl⟩⟩

theorem KOK.lift {V : Mem} {R : List Grp} {k : KR} (h : KOK V k) : KOK (ext V R) k := ⟨h.1, h.2.1, h.2.2.1, h.2.2.2.here.down⟩
def dupK (ks : List KR) (k : Nat) : Prop := ∃ j, j < k ∧ (ks.getD j default).name = (ks.getD k default).name
instance (ks : List KR) (k : Nat) : Decidable (dupK ks k) := by unfold dupK; infer_instance
def chTo (ks : List KR) : Nat → Int
 | 0 => 0
 | k + 1 => if chTo ks k ≠ 0 then chTo ks k else if oneErr (ks.getD k default) ≠ 0 then oneErr (ks.getD k default) else if dupK ks k then 5 else 0
theorem chTo_stay {ks : List KR} {k : Nat} (h : chTo ks k ≠ 0) : ∀ {n : Nat}, k ≤ n → chTo ks n = chTo ks k
 | 0, hn => by rw [show k = 0 by omega]
 | n + 1, hn => by
  by_cases e : k = n + 1
  ·rw [e]
  ·have ih := chTo_stay h (show k ≤ n by omega); simp only [chTo]; rw [if_pos (by rw [ih]; exact h), ih]
/-- The number of the fault of a list of kinds. -/
def ckErr (ks : List KR) : Int := if 16 < ks.length then 2 else chTo ks ks.length
theorem ch_bad {ks : List KR} {k n : Nat} (h0 : chTo ks k = 0) (h : oneErr (ks.getD k default) ≠ 0) (hn : k < n) : oneErr (ks.getD k default) = chTo ks n := by
 have e : chTo ks (k + 1) = oneErr (ks.getD k default) := by simp only [chTo]; rw [if_neg (fun hh => hh h0), if_pos h]
 rw [chTo_stay (k := k + 1) (by rw [e]; exact h) (by omega), e]
theorem ch_dup {ks : List KR} {k n : Nat} (h0 : chTo ks k = 0) (h : ¬ oneErr (ks.getD k default) ≠ 0) (hd : dupK ks k) (hn : k < n) : (5 : Int) = chTo ks n := by
 have e : chTo ks (k + 1) = 5 := by simp only [chTo]; rw [if_neg (fun hh => hh h0), if_neg h, if_pos hd]
 rw [chTo_stay (k := k + 1) (by rw [e]; decide) (by omega), e]
theorem ch_next {ks : List KR} {k : Nat} (h0 : chTo ks k = 0) (h : ¬ oneErr (ks.getD k default) ≠ 0) (hd : ¬ dupK ks k) : chTo ks (k + 1) = 0 := by
 simp only [chTo]; rw [if_neg (fun hh => hh h0), if_neg h, if_neg hd]
theorem find_dup {ks : List KR} {g : Nat} {r : Int} (hg : g ≤ ks.length) (h : FindOK (ks.take g) (ks.getD g default).name r) : (0 ≤ r ↔ dupK ks g) := by
 have hl : (ks.take g).length = g := by rw [List.length_take]; omega
 rcases h with ⟨h1, h2⟩ | ⟨j, h1, h2, h3, _⟩
 ·refine ⟨fun hh => by omega, fun ⟨j, hj, hh⟩ => ?_⟩; have := h2 j (by omega); rw [take_getD hj] at this; exact absurd hh this
 ·refine ⟨fun _ => ⟨j, by omega, ?_⟩, fun _ => by omega⟩; rw [← take_getD (n := g) (by omega)]; exact h3

theorem getD_mem' {α : Type} {l : List α} {j : Nat} {d : α} (h : j < l.length) : l.getD j d ∈ l := by
 rw [List.getD_eq_getElem?_getD, List.getElem?_eq_getElem h]; simp

theorem CheckK_c {V : Mem} (A : Option Addr) (n c : Nat) (ks : List KR) (h : Cels V [] A (ks.flatMap encK)) (hn : ks.length = n) (hc : n ≤ c) (hb : n ≤ 140737488355328) (hK : ∀ k ∈ ks, KOK V k) : CallS Tryz.prog 68 [.slice A n c].toArray V [] (fun r L' => r = .int .i64 (ckErr ks) ∧ L' = []) := by
 refine callS Tryz.func68 rfl rfl (fun w0 => ?_); refine s_seq (s_region ?_); refine ov (y_assign (v := .int _ _) rfl) (o_nil ?_); refine s_seq ?_; refine s_seq (s_region ?_); refine ov (y_move (v := .slice _ _ _) rfl) ?_; refine ov (y_len Tryz.runUnderlying23 rfl) ?_; refine ov (y_gtr rfl rfl) (o_nil ?_); refine s_if rfl (fun h1 => ?_) (fun h2 => ?_)
 ·have hbig := h1; refine s_seq (s_region ?_); refine ov (y_assign (v := .int _ _) rfl) (o_nil ?_); refine s_ret ?_; exact ⟨_, _, res1 rfl rfl, ⟨congrArg (Value.int .i64) (by unfold ckErr; rw [if_pos (by omega)]), rfl⟩, sub_front ⟨_, rfl⟩⟩
 ·have hsm := h2; refine s_skip ?_; refine s_seq ?_; refine s_seq (s_region ?_); refine ov (y_move (v := .slice _ _ _) rfl) ?_; refine ov (y_len Tryz.runUnderlying23 rfl) ?_; refine ov (y_move (v := .int _ _) rfl) (o_nil ?_); refine s_block ?_; refine s_loop (γ := Nat) (fun g => [(0, .slice A n c), (9, .slice A n c), (10, .int .i64 n), (11, .int .i64 g)]) (fun g => []) (fun g => g ≤ n ∧ chTo ks g = 0) (fun g => n - g) (0) ?_ (hz4 trivial) (sub_front ⟨_, rfl⟩) ?_
  ·exact ⟨Nat.zero_le _, rfl⟩
  ·intro g _f hI; obtain ⟨hg, h0⟩ := hI; refine s_seq (s_region ?_); refine ov (y_lss rfl rfl) (o_nil ?_); refine s_seq ?_; refine s_if rfl (fun h3 => ?_) (fun h4 => ?_)
   ·refine s_skip ?_; refine s_seq ?_; refine s_block ?_; refine s_seq (s_region ?_); refine ov (y_move (v := .int _ _) rfl) ?_; refine ov (y_indexAddr Tryz.runUnderlying23 Tryz.sizeOf79 (some_at (sz := 1) encK_len (i := 0) h (by omega)) rfl rfl (by omega)) ?_; refine ov (y_loads (cs := [_, _]) Tryz.isAgg79 Tryz.sizeOf79 rfl (by unfold idx; rw [Option.isSome_map]; exact some_at (sz := 1) encK_len (i := 0) h (by omega)) rfl (cels_at (sz := 2) encK_len h.here (by omega))) ?_; refine o_alloc rfl Tryz.zeroValue79 rfl (fun b5 => ?_); refine ov (y_assign (v := .int _ _) rfl) ?_; refine o_stores (vs := [(.string _), (.slice _ _ _)]) 0 rfl Tryz.sizeOf79 rfl rfl rfl (by simp [Value.oneCell']) (by simp) (o_nil ?_); refine s_seq ?_; refine s_seq (s_region ?_); refine ov (y_loads (cs := [_, _]) Tryz.isAgg79 Tryz.sizeOf79 rfl rfl rfl (cels_own 0 rfl rfl)) ?_; refine o_fn 0 (d := 17) rfl Tryz.call106 (One_c (ks.getD g default) (hK _ (getD_mem' (by omega))).lift) rfl ?_; rintro _ _ ⟨rfl, rfl⟩; refine ov (y_assign (v := .int _ _) rfl) (o_nil ?_); refine s_seq (s_region ?_); refine ov (y_move (v := .int _ _) rfl) ?_; refine ov (y_neq rfl rfl) (o_nil ?_); refine s_if rfl (fun h6 => ?_) (fun h7 => ?_)
    ·have hoe := h6; refine s_seq (s_region ?_); refine ov (y_move (v := .int _ _) rfl) ?_; refine ov (y_assign (v := .int _ _) rfl) (o_nil ?_); refine s_ret ?_; exact ⟨_, _, res1 rfl rfl, ⟨congrArg (Value.int .i64) (by unfold ckErr; rw [if_neg (by omega)]; exact ch_bad h0 hoe (by omega)), rfl⟩, sub_front ⟨_, rfl⟩⟩
    ·have hoe := h7; refine s_skip ?_; refine s_seq ?_; refine s_drawn 0 (by kernel_rfl) ?_; refine dv 0 rfl rfl (y_move (v := .slice _ _ _) rfl) ?_; refine dv 1 rfl rfl (y_move (v := .int _ _) rfl) ?_; refine dv 2 rfl rfl (y_cut_hi Tryz.runUnderlying23 Tryz.sizeOf79 rfl rfl (by omega)) ?_; refine dv 3 rfl rfl (y_field0 (F := 0) Tryz.runUnderlying79 rfl Tryz.sizeOf9 rfl rfl) ?_; refine dv 4 rfl rfl (y_load Tryz.isAgg9 rfl (cel_own 0 rfl rfl)) ?_; refine d_eff (k := 5) (n := 0) (m := 1) rfl (by kernel_rfl) rfl ?_; refine o_fn 0 (d := 26) rfl Tryz.call107 (FindK_c _ _ _ (ks.take g) (cels_flat_take h g).here.down (by rw [List.length_take]; omega) (by omega) (ks.getD g default).name) rfl ?_; rintro _ _ ⟨fr, rfl, hfr, rfl⟩; have hfd := find_dup (show g ≤ ks.length by omega) hfr; refine o_nil ?_; refine dv 6 rfl rfl (y_geq rfl rfl) ?_; refine d_nil (n := 0) (m := 1) (by kernel_rfl) rfl ?_; refine s_if rfl (fun h8 => ?_) (fun h9 => ?_)
     ·have hd := hfd.1 h8; refine s_seq (s_region ?_); refine ov (y_assign (v := .int _ _) rfl) (o_nil ?_); refine s_ret ?_; exact ⟨_, _, res1 rfl rfl, ⟨congrArg (Value.int .i64) (by unfold ckErr; rw [if_neg (by omega)]; exact ch_dup h0 hoe hd (by omega)), rfl⟩, sub_front ⟨_, rfl⟩⟩
     ·have hd : ¬ dupK ks g := fun hh => h9 (hfd.2 hh); refine s_skip ?_; refine s_region ?_; refine ov (y_add rfl rfl (by simp only [inK]; omega)) ?_; refine ov (y_move (v := .int _ _) rfl) (o_nil ?_); exact ⟨g + 1, (by first | omega | (dsimp only; omega)), ⟨by omega, ch_next h0 hoe hd⟩, ⟨rfl, rfl, rfl, (congrArg (Value.int _) (by omega)), trivial⟩, sub_front ⟨_, rfl⟩⟩
   ·refine s_exit ?_; refine s_seq (s_region ?_); refine ov (y_assign (v := .int _ _) rfl) (o_nil ?_); refine s_ret ?_; exact ⟨_, _, res1 rfl rfl, ⟨congrArg (Value.int .i64) (by unfold ckErr; rw [if_neg (by omega), hn, ← show g = n by omega]; exact h0.symm), rfl⟩, sub_front ⟨_, rfl⟩⟩

end Go.Proofs.YtlkajdcgdoijjaaGreatDoor.K
end
section
set_option linter.unusedVariables false
set_option linter.unusedSimpArgs false
set_option maxRecDepth 100000
namespace Go.Proofs.YtlkajdcgdoijjaaGreatDoor.K
open Go.RowKit

theorem pow_bd {b : Int} (h : 1 ≤ b ∧ b ≤ 32) : 2 ≤ (2 : Int) ^ b.toNat ∧ (2 : Int) ^ b.toNat ≤ 4294967296 := by
 obtain ⟨n, rfl⟩ : ∃ n : Nat, b = n := ⟨b.toNat, by omega⟩; have h1 : 1 ≤ n := by omega
 have h2 : n ≤ 32 := by omega
 rw [Int.toNat_natCast]; have e1 : (2 : Nat) ^ 1 ≤ 2 ^ n := Nat.pow_le_pow_right (by decide) h1; have e2 : (2 : Nat) ^ n ≤ 2 ^ 32 := Nat.pow_le_pow_right (by decide) h2; have e3 : ((2 ^ n : Nat) : Int) = (2 : Int) ^ n := by rw [Int.natCast_pow]; rfl
 rw [← e3]; omega
theorem pow_bits {b : Int} (h : 1 ≤ b ∧ b ≤ 32) : IntKind.i64.wrap (1 * 2 ^ (min b.toNat IntKind.i64.bits)) = 2 ^ b.toNat := by
 have hp := pow_bd h; rw [show min b.toNat IntKind.i64.bits = b.toNat from by have : IntKind.i64.bits = 64 := rfl; omega, Int.one_mul]; exact wrap_in (by simp only [inK]; omega)
/-- The greatest value of a field. -/
def highV (f : FR) : Int := if fOK f then f.low + (2 ^ f.bits.toNat - 1) else 0
/-- The value of a field that is nearest to a number. -/
def nearV (f : FR) (v : Int) : Int := if fOK f then max f.low (min v (highV f)) else 0
theorem fErr_ok {f : FR} : fErr f = 0 ↔ fOK f := by unfold fErr; split <;> simp_all
/-- The number of the fault of values for a kind. -/
def fitErr (k : KR) (n : Nat) : Int := if oneErr k ≠ 0 then oneErr k else if n ≠ k.fs.length then 1 else 0
def fitV (fs : List FR) (vs : List Int) : List Int := List.zipWith nearV fs vs
theorem fitV_len {fs : List FR} {vs : List Int} (h : vs.length = fs.length) : (fitV fs vs).length = fs.length := by unfold fitV; rw [List.length_zipWith]; omega
theorem fitV_get {fs : List FR} {vs : List Int} (h : vs.length = fs.length) {j : Nat} (hj : j < fs.length) : (fitV fs vs).getD j 0 = nearV (fs.getD j default) (vs.getD j 0) := by
 unfold fitV; simp [List.getD_eq_getElem?_getD, List.getElem?_zipWith, hj, show j < vs.length by omega]
theorem set_take1 {α : Type} {xs : List α} {k : Nat} {v : α} (hk : k < xs.length) : (xs.set k v).take (k + 1) = xs.take k ++ [v] := by
 rw [List.take_add_one, List.getElem?_set_self hk]
 congr 1
 apply List.ext_getElem?
 intro j; simp only [List.getElem?_take, List.getElem?_set]
 split
 ·rw [if_neg (by omega)]
 ·rfl
theorem take_next {α : Type} {ys : List α} {k : Nat} {d : α} (hk : k < ys.length) : ys.take (k + 1) = ys.take k ++ [ys.getD k d] := by
 rw [List.take_add_one, List.getElem?_eq_getElem hk, List.getD_eq_getElem?_getD, List.getElem?_eq_getElem hk]; rfl
theorem fitV_step {fs : List FR} {vs xs : List Int} {n k : Nat} (hf : fs.length = n) (hv : vs.length = n) (hx : xs.length = n) (hk : k < n) (h : xs.take k = (fitV fs vs).take k) :
  (xs.set k (nearV (fs.getD k default) (vs.getD k 0))).take (k + 1) = (fitV fs vs).take (k + 1) := by
 have hl : (fitV fs vs).length = n := by rw [fitV_len (by omega)]; exact hf
 rw [set_take1 (by omega), take_next (d := 0) (by omega), h, fitV_get (by omega) (by omega)]

theorem HighK_c {V : Mem} (f : FR) : CallS Tryz.prog 168 [.agg #[.string f.name, .int .i64 f.bits, .int .i64 f.low]].toArray V [] (fun r L' => r = .int .i64 (highV f) ∧ L' = []) := by
 refine callS Tryz.func168 rfl rfl (fun w0 => ?_); refine s_seq (s_region ?_); refine o_box (v := (.agg #[(.string _), (.int _ _), (.int _ _)])) rfl rfl rfl (fun b1 => ?_); refine ov (y_assign (v := .int _ _) rfl) (o_nil ?_); refine s_seq ?_; refine s_seq (s_region ?_); refine ov (y_loads (cs := [_, _, _]) Tryz.isAgg75 Tryz.sizeOf75 rfl rfl rfl (cels_own 0 rfl rfl)) ?_; refine o_fn 0 (d := 4) rfl Tryz.call166 (field_c f) rfl ?_; rintro _ _ ⟨rfl, rfl⟩; refine ov (y_neq rfl rfl) (o_nil ?_); refine s_if rfl (fun h2 => ?_) (fun h3 => ?_)
 ·have hno : ¬ fOK f := fun hh => h2 (fErr_ok.2 hh); refine s_seq (s_region ?_); refine ov (y_assign (v := .int _ _) rfl) (o_nil ?_); refine s_ret ?_; exact ⟨_, [], res1 rfl rfl, ⟨congrArg (Value.int .i64) (by unfold highV; rw [if_neg hno]), rfl⟩, sub_picks [] rfl⟩
 ·have hok : fOK f := fErr_ok.1 (Decidable.not_not.1 h3); have hp := pow_bd ⟨hok.2.1, hok.2.2.1⟩; have hlo := hok.2.2.2; refine s_skip ?_; refine s_seq ?_; refine s_quiet (by kernel_rfl) (by kernel_rfl) ?_; refine q_val rfl rfl rfl (y_field0 (F := 2) Tryz.runUnderlying75 rfl Tryz.sizeOf3 rfl rfl) ?_; refine q_val rfl rfl rfl (y_load Tryz.isAgg3 rfl (cel_own 0 rfl rfl)) ?_; refine q_val rfl rfl rfl (y_field0 (F := 1) Tryz.runUnderlying75 rfl Tryz.sizeOf3 rfl rfl) ?_; refine q_val rfl rfl rfl (y_load Tryz.isAgg3 rfl (cel_own 0 rfl rfl)) ?_; refine q_val rfl rfl rfl ((y_shl rfl rfl (by have := hok.2.1; omega)).int (pow_bits ⟨hok.2.1, hok.2.2.1⟩)) ?_; refine q_val rfl rfl rfl (y_sub rfl rfl (by simp only [inK]; omega)) ?_; refine q_val rfl rfl rfl (y_add rfl rfl (by simp only [inK]; omega)) ?_; refine q_val rfl rfl rfl (y_assign (v := .int _ _) rfl) ?_; refine q_nil ?_; refine s_ret ?_; exact ⟨_, [], res1 rfl rfl, ⟨congrArg (Value.int .i64) (by unfold highV; rw [if_pos hok]), rfl⟩, sub_picks [] rfl⟩

theorem NearK_c {V : Mem} (f : FR) (v : Int) : CallS Tryz.prog 113 [.agg #[.string f.name, .int .i64 f.bits, .int .i64 f.low], .int .i64 v].toArray V [] (fun r L' => r = .int .i64 (nearV f v) ∧ L' = []) := by
 refine callS Tryz.func113 rfl rfl (fun w0 => ?_); refine s_seq (s_region ?_); refine o_box (v := (.agg #[(.string _), (.int _ _), (.int _ _)])) rfl rfl rfl (fun b1 => ?_); refine ov (y_assign (v := .int _ _) rfl) (o_nil ?_); refine s_seq ?_; refine s_seq (s_region ?_); refine ov (y_loads (cs := [_, _, _]) Tryz.isAgg75 Tryz.sizeOf75 rfl rfl rfl (cels_own 0 rfl rfl)) ?_; refine o_fn 0 (d := 6) rfl Tryz.call166 (field_c f) rfl ?_; rintro _ _ ⟨rfl, rfl⟩; refine ov (y_neq rfl rfl) (o_nil ?_); refine s_if rfl (fun h2 => ?_) (fun h3 => ?_)
 ·have hno : ¬ fOK f := fun hh => h2 (fErr_ok.2 hh); refine s_seq (s_region ?_); refine ov (y_assign (v := .int _ _) rfl) (o_nil ?_); refine s_ret ?_; exact ⟨_, [], res1 rfl rfl, ⟨congrArg (Value.int .i64) (by unfold nearV; rw [if_neg hno]), rfl⟩, sub_picks [] rfl⟩
 ·have hok : fOK f := fErr_ok.1 (Decidable.not_not.1 h3); refine s_skip ?_; refine s_seq ?_; refine s_drawn 0 (by kernel_rfl) ?_; refine dv 0 rfl rfl (y_field0 (F := 2) Tryz.runUnderlying75 rfl Tryz.sizeOf3 rfl rfl) ?_; refine dv 1 rfl rfl (y_load Tryz.isAgg3 rfl (cel_own 0 rfl rfl)) ?_; refine dv 2 rfl rfl (y_move (v := .int _ _) rfl) ?_; refine dv 3 rfl rfl (y_loads (cs := [_, _, _]) Tryz.isAgg75 Tryz.sizeOf75 rfl rfl rfl (cels_own 0 rfl rfl)) ?_; refine d_eff (k := 4) (n := 0) (m := 1) rfl (by kernel_rfl) rfl ?_; refine o_fn 0 (d := 12) rfl Tryz.call168 (HighK_c f) rfl ?_; rintro _ _ ⟨rfl, rfl⟩; refine o_nil ?_; refine dv 5 rfl rfl (y_min rfl rfl) ?_; refine dv 6 rfl rfl (y_max rfl rfl) ?_; refine dv 7 rfl rfl (y_assign (v := .int _ _) rfl) ?_; refine d_nil (n := 0) (m := 1) (by kernel_rfl) rfl ?_; refine sf [(4, .int _ _)] (fun _f => ?_); refine s_ret ?_; exact ⟨_, [], res1 rfl rfl, ⟨congrArg (Value.int .i64) (by unfold nearV; rw [if_pos hok]), rfl⟩, sub_picks [] rfl⟩

structure LFit where
 k : Nat
 xs : List Int
 E : Grp
theorem FitK_c {V : Mem} (k : KR) (hk : KOK V k) (A : Option Addr) (n c : Nat) (vs : List Int) (hv : Cels V [] A (vs.map (.int .i64))) (hvl : vs.length = n) (hnb : n ≤ 17592186044416) : CallS Tryz.prog 76 [.agg #[.string k.name, .slice k.A k.n k.c], .slice A n c].toArray V [] (fun r L' => (fitErr k n ≠ 0 ∧ r = .tuple #[.slice none 0 0, .int .i64 (fitErr k n)] ∧ L' = []) ∨ (fitErr k n = 0 ∧ ∃ B E, r = .tuple #[.slice B n n, .int .i64 0] ∧ OS B n n 3 1 ((fitV k.fs vs).map (.int .i64)) E ∧ B.isSome = true ∧ L' = [E])) := by
 have hf := hk.2.2.2; have hfl := hk.1; refine callS Tryz.func76 rfl rfl (fun w0 => ?_); refine s_seq (s_region ?_); refine o_box (v := (.agg #[(.string _), (.slice _ _ _)])) rfl rfl rfl (fun b1 => ?_); refine ov (y_assign (v := .slice _ _ _) rfl) ?_; refine ov (y_assign (v := .int _ _) rfl) (o_nil ?_); refine s_seq ?_; refine s_seq (s_region ?_); refine ov (y_loads (cs := [_, _]) Tryz.isAgg79 Tryz.sizeOf79 rfl rfl rfl (cels_own 0 rfl rfl)) ?_; refine o_fn 0 (d := 11) rfl Tryz.call106 (One_c k hk.lift) rfl ?_; rintro _ _ ⟨rfl, rfl⟩; refine ov (y_assign (v := .int _ _) rfl) (o_nil ?_); refine s_seq (s_region ?_); refine ov (y_move (v := .int _ _) rfl) ?_; refine ov (y_neq rfl rfl) (o_nil ?_); refine s_if rfl (fun h2 => ?_) (fun h3 => ?_)
 ·have hbad := h2; refine s_seq (s_region ?_); refine ov (y_move (v := .int _ _) rfl) ?_; refine ov (y_assign (v := .slice _ _ _) rfl) ?_; refine ov (y_assign (v := .int _ _) rfl) (o_nil ?_); refine s_ret ?_; exact ⟨_, [], res2 rfl rfl rfl, .inl ⟨by unfold fitErr; rw [if_pos hbad]; exact hbad, by unfold fitErr; rw [if_pos hbad]; rfl, rfl⟩, sub_picks [] rfl⟩
 ·have hone := Decidable.not_not.1 h3; refine s_skip ?_; refine s_seq ?_; refine s_seq (s_region ?_); refine ov (y_move (v := .slice _ _ _) rfl) ?_; refine ov (y_len Tryz.runUnderlying22 rfl) ?_; refine ov (y_field0 (F := 1) Tryz.runUnderlying79 rfl Tryz.sizeOf77 rfl rfl) ?_; refine ov (y_load Tryz.isAgg77 rfl (cel_own 0 rfl rfl)) ?_; refine ov (y_len Tryz.runUnderlying77 rfl) ?_; refine ov (y_neq rfl rfl) (o_nil ?_); refine sf [(1, .slice _ _ _), (2, .pointer _), (4, .slice _ _ _), (5, .int _ _), (20, .bool _)] (fun _f => ?_); refine s_if rfl (fun h4 => ?_) (fun h5 => ?_)
  ·have hne := h4; refine s_seq (s_region ?_); refine ov (y_assign (v := .slice _ _ _) rfl) ?_; refine ov (y_assign (v := .int _ _) rfl) (o_nil ?_); refine s_ret ?_; exact ⟨_, [], res2 rfl rfl rfl, .inl ⟨by unfold fitErr; rw [if_neg (fun hh => hh hone), if_pos (by omega)]; decide, by unfold fitErr; rw [if_neg (fun hh => hh hone), if_pos (by omega)]; rfl, rfl⟩, sub_picks [] rfl⟩
  ·have hnf : n = k.n := by omega
   refine s_skip ?_; refine s_seq (s_region ?_); refine ov (y_move (v := .slice _ _ _) rfl) ?_; refine ov (y_len Tryz.runUnderlying22 rfl) ?_; refine o_make (sz := 1) (bytes := 8) (n := n) rfl Tryz.underlying22 Tryz.type3 rfl rfl rfl rfl rfl (by omega) (fun oA oE ho6 hoS => ?_); have hout : OS oA n n 3 1 (((List.replicate n (0 : Int))).map (.int .i64)) oE := os_made_int ho6
   clear ho6
   refine ov (y_assign (v := .slice _ _ _) rfl) (o_nil ?_); refine s_seq ?_; refine s_seq (s_region ?_); refine ov (y_field0 (F := 1) Tryz.runUnderlying79 rfl Tryz.sizeOf77 rfl rfl) ?_; refine ov (y_load Tryz.isAgg77 rfl (cel_own 0 rfl rfl)) ?_; refine ov (y_len Tryz.runUnderlying77 rfl) ?_; refine ov (y_move (v := .int _ _) rfl) (o_nil ?_); refine s_block ?_; refine s_loopK (γ := LFit) [(1, .slice _ _ _), (4, .slice _ _ _), (5, .int _ _), (7, .slice _ _ _), (25, .slice _ _ _), (26, .int _ _)] [] (fun g => [(27, .int .i64 g.k)]) (fun g => [g.E]) (fun g => g.k ≤ n ∧ OS oA n n 3 1 ((g.xs).map (.int .i64)) g.E ∧ g.xs.take g.k = (fitV k.fs vs).take g.k) (fun g => n - g.k) (LFit.mk 0 (List.replicate n 0) oE) (hz7 trivial) (sub_picks [1] rfl) ?_ ?_
   ·exact ⟨Nat.zero_le _, hout, rfl⟩
   intro g _f hI; refine s_norm _ (by simp only [pull, picks, setG, List.cons_append, List.nil_append, List.append_nil, List.drop_succ_cons, List.drop_zero]; rfl) ?_; obtain ⟨hgk, hxo, hxt⟩ := hI; have hxl : g.xs.length = n := by simpa using hxo.len
   refine s_seq (s_region ?_); refine ov (y_lss rfl rfl) (o_nil ?_); refine s_seq ?_; refine s_if rfl (fun h7 => ?_) (fun h8 => ?_)
   ·refine s_skip ?_; refine s_seq ?_; refine s_block ?_; refine s_seq (s_region ?_); refine ov (y_move (v := .int _ _) rfl) ?_; refine ov (y_indexAddr Tryz.runUnderlying77 Tryz.sizeOf75 (some_at (sz := 2) encF_len (i := 0) hf (by omega)) rfl rfl (by omega)) ?_; refine ov (y_loads (cs := [_, _, _]) Tryz.isAgg75 Tryz.sizeOf75 rfl (by unfold idx; rw [Option.isSome_map]; exact some_at (sz := 2) encF_len (i := 0) hf (by omega)) rfl (cels_at (sz := 3) encF_len hf.here (by omega))) ?_; refine o_alloc rfl Tryz.zeroValue75 rfl (fun b9 => ?_); refine ov (y_assign (v := .int _ _) rfl) ?_; refine o_stores (vs := [(.string _), (.int _ _), (.int _ _)]) 1 rfl Tryz.sizeOf75 rfl rfl rfl (by simp [Value.oneCell']) (by simp) (o_nil ?_); refine s_drawn 1 (by kernel_rfl) ?_; refine dv 0 rfl rfl (y_move (v := .slice _ _ _) rfl) ?_; refine dv 1 rfl rfl (y_move (v := .int _ _) rfl) ?_; refine dv 2 rfl rfl (y_loads (cs := [_, _, _]) Tryz.isAgg75 Tryz.sizeOf75 rfl rfl rfl (cels_own 0 rfl rfl)) ?_; refine dv 3 rfl rfl (y_move (v := .slice _ _ _) rfl) ?_; refine dv 4 rfl rfl (y_move (v := .int _ _) rfl) ?_; refine dv 5 rfl rfl (y_index1 Tryz.runUnderlying22 Tryz.sizeOf3 (some_int (i := 0) hv (by omega)) rfl rfl (by omega)) ?_; refine dv 6 rfl rfl (y_load Tryz.isAgg3 rfl (cel_int hv.here (by omega))) ?_; refine d_eff (k := 7) (n := 1) (m := 1) rfl (by kernel_rfl) rfl ?_; refine o_fn 0 (d := 39) rfl Tryz.call113 (NearK_c (k.fs.getD ((g.k : Nat) : Int).toNat default) (vs.getD ((g.k : Nat) : Int).toNat 0)) rfl ?_; rintro _ _ ⟨rfl, rfl⟩; refine o_nil ?_; refine dv 8 rfl rfl (y_index1 Tryz.runUnderlying22 Tryz.sizeOf3 (hxo.some_of (by omega)) rfl rfl (by omega)) ?_; refine d_eff (k := 9) (n := 1) (m := 1) rfl (by kernel_rfl) rfl ?_; refine o_store_os (vs := [(.int _ _)]) 0 rfl hxo Tryz.sizeOf3 rfl rfl rfl (by simp [Value.oneCell']) (by simp) (by first | omega | (simp; omega)) (fun E10 ho11 => ?_); have ho12 := os_lay_int ho11 (by first | omega | (simp; omega))
    clear ho11
    refine o_nil ?_; refine d_nil (n := 1) (m := 1) (by kernel_rfl) rfl ?_; refine sf [(1, .slice _ _ _), (4, .slice _ _ _), (5, .int _ _), (7, .slice _ _ _), (25, .slice _ _ _), (26, .int _ _), (27, .int _ _)] (fun _f => ?_); refine s_region ?_; refine ov (y_add rfl rfl (by simp only [inK]; omega)) ?_; refine ov (y_move (v := .int _ _) rfl) (o_nil ?_); exact ⟨LFit.mk (g.k + 1) (g.xs.set ((g.k : Nat) : Int).toNat (nearV (k.fs.getD ((g.k : Nat) : Int).toNat default) (vs.getD ((g.k : Nat) : Int).toNat 0))) E10, (by first | omega | (dsimp only; omega)), ⟨by dsimp only; omega, ho12, fitV_step (by omega) hvl hxl (by omega) hxt⟩, ⟨(congrArg (Value.int .i64) (by (try dsimp only); omega)), hz6 trivial⟩, (sub_picks [0] rfl)⟩
   ·refine s_exit ?_; refine s_seq (s_region ?_); refine ov (y_move (v := .slice _ _ _) rfl) ?_; refine ov (y_assign (v := .slice _ _ _) rfl) ?_; refine ov (y_assign (v := .int _ _) rfl) (o_nil ?_); refine s_ret ?_; have hgn : g.k = n := by omega
    rw [hgn, List.take_of_length_le (by omega), List.take_of_length_le (by rw [fitV_len (by omega)]; omega)] at hxt; rw [hxt] at hxo; exact ⟨_, [_], res2 rfl rfl rfl, .inr ⟨by unfold fitErr; rw [if_neg (fun hh => hh hone), if_neg (by omega)], _, _, rfl, hxo, hoS, rfl⟩, sub_picks [0] rfl⟩

end Go.Proofs.YtlkajdcgdoijjaaGreatDoor.K
end
section
set_option linter.unusedVariables false
set_option linter.unusedSimpArgs false
set_option maxRecDepth 100000
namespace Go.Proofs.YtlkajdcgdoijjaaGreatDoor.K
open Go.RowKit

/-- A component: its kind, and where its values are. -/
structure CR where
 kind : Int
 A : Option Addr
 n : Nat
 c : Nat
 vs : List Int
instance : Inhabited CR := ⟨⟨0, none, 0, 0, []⟩⟩
def encC (c : CR) : List Value := [.int .i64 c.kind, .slice c.A c.n c.c]
theorem encC_len (c : CR) : (encC c).length = 2 := rfl
def COK (V : Mem) (c : CR) : Prop := c.vs.length = c.n ∧ c.n ≤ c.c ∧ c.n ≤ 17592186044416 ∧ Cels V [] c.A (c.vs.map (.int .i64))
/-- An item: its entity, and where its components are. -/
structure IR where
 e : Int
 g : Int
 A : Option Addr
 n : Nat
 c : Nat
 cs : List CR
instance : Inhabited IR := ⟨⟨0, 0, none, 0, 0, []⟩⟩
def encIt (i : IR) : List Value := [.int .i64 i.e, .int .i64 i.g, .slice i.A i.n i.c]
theorem encIt_len (i : IR) : (encIt i).length = 3 := rfl
def CsOK (V : Mem) (A : Option Addr) (n c : Nat) (cs : List CR) : Prop := cs.length = n ∧ n ≤ c ∧ n ≤ 4398046511104 ∧ Cels V [] A (cs.flatMap encC) ∧ ∀ x ∈ cs, COK V x
def IOK (V : Mem) (i : IR) : Prop := CsOK V i.A i.n i.c i.cs
structure WR where
 kA : Option Addr
 kn : Nat
 kc : Nat
 ks : List KR
 gA : Option Addr
 gn : Nat
 gc : Nat
 gs : List Int
 iA : Option Addr
 iN : Nat
 iC : Nat
 its : List IR
instance : Inhabited WR := ⟨⟨none, 0, 0, [], none, 0, 0, [], none, 0, 0, []⟩⟩
def encW (w : WR) : List Value := [.slice w.kA w.kn w.kc, .slice w.gA w.gn w.gc, .slice w.iA w.iN w.iC]
def KsOK (V : Mem) (A : Option Addr) (n c : Nat) (ks : List KR) : Prop := ks.length = n ∧ n ≤ c ∧ n ≤ 3518437208883 ∧ Cels V [] A (ks.flatMap encK) ∧ ∀ x ∈ ks, KOK V x
def GsOK (V : Mem) (A : Option Addr) (n c : Nat) (gs : List Int) : Prop := gs.length = n ∧ n ≤ c ∧ n ≤ 17592186044416 ∧ Cels V [] A (gs.map (.int .i64))
def IsOK (V : Mem) (A : Option Addr) (n c : Nat) (its : List IR) : Prop := its.length = n ∧ n ≤ c ∧ n ≤ 3518437208883 ∧ Cels V [] A (its.flatMap encIt) ∧ ∀ x ∈ its, IOK V x
/-- A world lies in memory as it says. -/
def WOK (V : Mem) (w : WR) : Prop := KsOK V w.kA w.kn w.kc w.ks ∧ GsOK V w.gA w.gn w.gc w.gs ∧ IsOK V w.iA w.iN w.iC w.its
theorem COK.sub {V V' : Mem} {c : CR} (h : COK V c) (hm : MSub V V') : COK V' c := ⟨h.1, h.2.1, h.2.2.1, h.2.2.2.ms hm⟩
theorem KOK.sub {V V' : Mem} {c : KR} (h : KOK V c) (hm : MSub V V') : KOK V' c := ⟨h.1, h.2.1, h.2.2.1, h.2.2.2.ms hm⟩
theorem CsOK.sub {V V' : Mem} {A : Option Addr} {n c : Nat} {cs : List CR} (h : CsOK V A n c cs) (hm : MSub V V') : CsOK V' A n c cs := ⟨h.1, h.2.1, h.2.2.1, h.2.2.2.1.ms hm, fun x hx => (h.2.2.2.2 x hx).sub hm⟩
theorem IOK.sub {V V' : Mem} {c : IR} (h : IOK V c) (hm : MSub V V') : IOK V' c := CsOK.sub h hm
theorem KsOK.sub {V V' : Mem} {A : Option Addr} {n c : Nat} {ks : List KR} (h : KsOK V A n c ks) (hm : MSub V V') : KsOK V' A n c ks := ⟨h.1, h.2.1, h.2.2.1, h.2.2.2.1.ms hm, fun x hx => (h.2.2.2.2 x hx).sub hm⟩
theorem GsOK.sub {V V' : Mem} {A : Option Addr} {n c : Nat} {gs : List Int} (h : GsOK V A n c gs) (hm : MSub V V') : GsOK V' A n c gs := ⟨h.1, h.2.1, h.2.2.1, h.2.2.2.ms hm⟩
theorem IsOK.sub {V V' : Mem} {A : Option Addr} {n c : Nat} {its : List IR} (h : IsOK V A n c its) (hm : MSub V V') : IsOK V' A n c its := ⟨h.1, h.2.1, h.2.2.1, h.2.2.2.1.ms hm, fun x hx => (h.2.2.2.2 x hx).sub hm⟩
theorem WOK.sub {V V' : Mem} {w : WR} (h : WOK V w) (hm : MSub V V') : WOK V' w := ⟨h.1.sub hm, h.2.1.sub hm, h.2.2.sub hm⟩
/-- What a kind says, without where it lies. -/
def KR.d (k : KR) : ByteArray × List FR := (k.name, k.fs)
/-- Are numbers the values of a kind? -/
def holdsV (k : KR) (vs : List Int) : Prop := fitErr k vs.length = 0 ∧ fitV k.fs vs = vs
instance (k : KR) (vs : List Int) : Decidable (holdsV k vs) := by unfold holdsV; infer_instance
theorem ext_getD {xs ys : List Int} (hl : xs.length = ys.length) (h : ∀ j, j < xs.length → xs.getD j 0 = ys.getD j 0) : xs = ys := by
 apply List.ext_getElem hl
 intro j h1 h2; have := h j h1
 simpa [List.getD_eq_getElem?_getD, h1, h2] using this
theorem all_next {p : Nat → Prop} {k : Nat} (h : ∀ j, j < k → p j) (hk : p k) : ∀ j, j < k + 1 → p j := fun j hj => if e : j = k then e ▸ hk else h j (by omega)
def goodC (ks : List KR) (last : Int) (c : CR) : Prop := last < c.kind ∧ c.kind < ks.length ∧ holdsV (ks.getD c.kind.toNat default) c.vs
instance (ks : List KR) (l : Int) (c : CR) : Decidable (goodC ks l c) := by unfold goodC; infer_instance
def lastC (cs : List CR) : Nat → Int
 | 0 => -1
 | j + 1 => (cs.getD j default).kind
/-- Are components those of an item? -/
def heldP (ks : List KR) (cs : List CR) : Prop := ∀ j, j < cs.length → goodC ks (lastC cs j) (cs.getD j default)
instance (ks : List KR) (cs : List CR) : Decidable (heldP ks cs) := by unfold heldP; infer_instance
theorem lastC_ge {ks : List KR} {cs : List CR} : ∀ {g : Nat}, (∀ j, j < g → goodC ks (lastC cs j) (cs.getD j default)) → -1 ≤ lastC cs g
 | 0, _ => Int.le_refl _
 | g + 1, h => by
  have h1 := lastC_ge (g := g) fun j hj => h j (by omega); have h2 := (h g (by omega)).1; simp only [lastC]; omega
def goodI (ks : List KR) (gs : List Int) (last : Int) (i : IR) : Prop := last < i.e ∧ i.e < gs.length ∧ i.g = gs.getD i.e.toNat 0 ∧ i.g ≠ 1073741824 ∧ heldP ks i.cs
instance (ks : List KR) (gs : List Int) (l : Int) (c : IR) : Decidable (goodI ks gs l c) := by unfold goodI; infer_instance
def lastI (its : List IR) : Nat → Int
 | 0 => -1
 | j + 1 => (its.getD j default).e
def itemsP (ks : List KR) (gs : List Int) (its : List IR) : Prop := ∀ j, j < its.length → goodI ks gs (lastI its j) (its.getD j default)
instance (ks : List KR) (gs : List Int) (its : List IR) : Decidable (itemsP ks gs its) := by unfold itemsP; infer_instance
theorem lastI_ge {ks : List KR} {gs : List Int} {its : List IR} : ∀ {g : Nat}, (∀ j, j < g → goodI ks gs (lastI its j) (its.getD j default)) → -1 ≤ lastI its g
 | 0, _ => Int.le_refl _
 | g + 1, h => by
  have h1 := lastI_ge (g := g) fun j hj => h j (by omega); have h2 := (h g (by omega)).1; simp only [lastI]; omega
def gensP (gs : List Int) : Prop := ∀ j, j < gs.length → 0 ≤ gs.getD j 0 ∧ gs.getD j 0 ≤ 1073741824
instance (gs : List Int) : Decidable (gensP gs) := by unfold gensP; infer_instance
/-- The number of a world's fault. -/
def wErr (ks : List KR) (gs : List Int) (its : List IR) : Int := if ckErr ks ≠ 0 then ckErr ks else if 256 < gs.length ∨ gs.length < its.length then 2 else if gensP gs ∧ itemsP ks gs its then 0 else 3

theorem HoldsK_c {V : Mem} (k : KR) (hk : KOK V k) (A : Option Addr) (n c : Nat) (vs : List Int) (hv : Cels V [] A (vs.map (.int .i64))) (hvl : vs.length = n) (hnb : n ≤ 17592186044416) : CallS Tryz.prog 108 [.agg #[.string k.name, .slice k.A k.n k.c], .slice A n c].toArray V [] (fun r L' => r = .bool (decide (holdsV k vs)) ∧ L' = []) := by
 refine callS Tryz.func108 rfl rfl (fun w0 => ?_); refine s_seq (s_region ?_); refine o_box (v := (.agg #[(.string _), (.slice _ _ _)])) rfl rfl rfl (fun b1 => ?_); refine ov (y_assign (v := .bool _) rfl) (o_nil ?_); refine s_seq (s_region ?_); refine ov (y_loads (cs := [_, _]) Tryz.isAgg79 Tryz.sizeOf79 rfl rfl rfl (cels_own 0 rfl rfl)) ?_; refine ov (y_move (v := .slice _ _ _) rfl) ?_; refine o_fn 0 (d := 11) rfl Tryz.call76 (FitK_c k (hk.sub MSub.ext) A n c vs hv.here.down hvl hnb) rfl ?_; rintro _ _ (⟨hbad, rfl, rfl⟩ | ⟨hgood, B, E, rfl, hbo, hbS, rfl⟩)
 ·refine ov (y_move (v := (.tuple #[(.slice _ _ _), (.int _ _)])) rfl) ?_; refine ov (y_extract (v := .slice _ _ _) rfl rfl) ?_; refine ov (y_extract (v := .int _ _) rfl rfl) ?_; refine ov (y_assign (v := .slice _ _ _) rfl) ?_; refine ov (y_assign (v := .int _ _) rfl) (o_nil ?_); refine s_seq ?_; refine s_seq (s_region ?_); refine ov (y_move (v := .int _ _) rfl) ?_; refine ov (y_neq rfl rfl) (o_nil ?_); refine sf [(1, .slice _ _ _), (4, .bool _), (5, .slice _ _ _), (15, .bool _)] (fun _f => ?_); refine s_if rfl (fun h2 => ?_) (fun h3 => ?_)
  ·refine s_seq (s_region ?_); refine ov (y_assign (v := .bool _) rfl) (o_nil ?_); refine s_ret ?_; exact ⟨_, [], res1 rfl rfl, ⟨congrArg Value.bool (decide_eq_false (fun hh => hbad (by rw [← hvl]; exact hh.1))).symm, rfl⟩, sub_picks [] rfl⟩
  ·exact absurd (Decidable.not_not.1 h3) hbad
 ·have hfl2 : (fitV k.fs vs).length = n := by simpa using hbo.len
  refine ov (y_move (v := (.tuple #[(.slice _ _ _), (.int _ _)])) rfl) ?_; refine ov (y_extract (v := .slice _ _ _) rfl rfl) ?_; refine ov (y_extract (v := .int _ _) rfl rfl) ?_; refine ov (y_assign (v := .slice _ _ _) rfl) ?_; refine ov (y_assign (v := .int _ _) rfl) (o_nil ?_); refine s_seq ?_; refine s_seq (s_region ?_); refine ov (y_move (v := .int _ _) rfl) ?_; refine ov (y_neq rfl rfl) (o_nil ?_); refine sf [(1, .slice _ _ _), (4, .bool _), (5, .slice _ _ _), (15, .bool _)] (fun _f => ?_); refine s_if rfl (fun h4 => ?_) (fun h5 => ?_)
  ·exact absurd rfl h4
  ·refine s_skip ?_; refine s_seq ?_; refine s_seq (s_region ?_); refine ov (y_move (v := .slice _ _ _) rfl) ?_; refine ov (y_len Tryz.runUnderlying22 rfl) ?_; refine ov (y_move (v := .int _ _) rfl) (o_nil ?_); refine s_block ?_; refine s_loopK (γ := Nat) [(1, .slice _ _ _), (5, .slice _ _ _), (17, .int _ _)] [_] (fun g => [(18, .int .i64 g)]) (fun g => []) (fun g => g ≤ n ∧ ∀ j, j < g → (fitV k.fs vs).getD j 0 = vs.getD j 0) (fun g => n - g) (0) (hz4 trivial) (sub_picks [0] rfl) ?_ ?_
   ·exact ⟨Nat.zero_le _, fun j hj => absurd hj (Nat.not_lt_zero j)⟩
   intro g _f hI; obtain ⟨hg, hall⟩ := hI; refine s_seq (s_region ?_); refine ov (y_lss rfl rfl) (o_nil ?_); refine s_seq ?_; refine s_if rfl (fun h6 => ?_) (fun h7 => ?_)
   ·refine s_skip ?_; refine s_seq ?_; refine s_block ?_; refine s_seq (s_region ?_); refine ov (y_move (v := .int _ _) rfl) ?_; refine ov (y_assign (v := .int _ _) rfl) (o_nil ?_); refine s_seq ?_; refine s_quiet (by kernel_rfl) (by kernel_rfl) ?_; refine q_val rfl rfl rfl (y_move (v := .slice _ _ _) rfl) ?_; refine q_val rfl rfl rfl (y_move (v := .int _ _) rfl) ?_; refine q_val rfl rfl rfl (y_index1 Tryz.runUnderlying22 Tryz.sizeOf3 (hbo.some_of (by omega)) rfl rfl (by omega)) ?_; refine q_val rfl rfl rfl (y_load Tryz.isAgg3 rfl (cel_int (hbo.cels (j := 0) rfl) (by omega))) ?_; refine q_val rfl rfl rfl (y_move (v := .slice _ _ _) rfl) ?_; refine q_val rfl rfl rfl (y_move (v := .int _ _) rfl) ?_; refine q_val rfl rfl rfl (y_index1 Tryz.runUnderlying22 Tryz.sizeOf3 (some_int (i := 0) hv (by omega)) rfl rfl (by omega)) ?_; refine q_val rfl rfl rfl (y_load Tryz.isAgg3 rfl (cel_int hv.here (by omega))) ?_; refine q_val rfl rfl rfl (y_neq rfl rfl) ?_; refine q_nil ?_; refine sf [(1, .slice _ _ _), (5, .slice _ _ _), (17, .int _ _), (18, .int _ _), (29, .bool _)] (fun _f => ?_); refine s_if rfl (fun h8 => ?_) (fun h9 => ?_)
    ·have hne := h8; refine s_seq (s_region ?_); refine ov (y_assign (v := .bool _) rfl) (o_nil ?_); refine s_ret ?_; exact ⟨_, [], res1 rfl rfl, ⟨congrArg Value.bool (decide_eq_false (fun hh => hne (by rw [hh.2]))).symm, rfl⟩, sub_picks [] rfl⟩
    ·have heq := Decidable.not_not.1 h9; refine s_skip ?_; refine s_region ?_; refine ov (y_add rfl rfl (by simp only [inK]; omega)) ?_; refine ov (y_move (v := .int _ _) rfl) (o_nil ?_); exact ⟨g + 1, (by first | omega | (dsimp only; omega)), ⟨by omega, all_next hall heq⟩, ⟨(congrArg (Value.int .i64) (by omega)), hz3 trivial⟩, (sub_picks [0] rfl)⟩
   ·refine s_exit ?_; refine s_seq (s_region ?_); refine ov (y_assign (v := .bool _) rfl) (o_nil ?_); refine s_ret ?_; exact ⟨_, [], res1 rfl rfl, ⟨congrArg Value.bool (decide_eq_true ⟨by rw [hvl]; exact hgood, ext_getD (by omega) (fun j hj => hall j (by omega))⟩).symm, rfl⟩, sub_picks [] rfl⟩

theorem heldW_c {V : Mem} (kA : Option Addr) (kn kc : Nat) (ks : List KR) (hks : KsOK V kA kn kc ks) (A : Option Addr) (n c : Nat) (cs : List CR) (hcs : CsOK V A n c cs) : CallS Tryz.prog 69 [.slice kA kn kc, .slice A n c].toArray V [] (fun r L' => r = .bool (decide (heldP ks cs)) ∧ L' = []) := by
 obtain ⟨hKl, hKc, hKb, hK, hKK⟩ := hks; obtain ⟨hCl, hCc, hCb, hC, hCC⟩ := hcs; refine callS Tryz.func69 rfl rfl (fun w0 => ?_); refine s_seq (s_region ?_); refine ov (y_assign (v := .bool _) rfl) (o_nil ?_); refine s_seq (s_region ?_); refine ov (y_assign (v := .int _ _) rfl) (o_nil ?_); refine s_seq ?_; refine s_seq (s_region ?_); refine ov (y_move (v := .slice _ _ _) rfl) ?_; refine ov (y_len Tryz.runUnderlying52 rfl) ?_; refine ov (y_move (v := .int _ _) rfl) (o_nil ?_); refine s_block ?_; refine s_loopK (γ := Nat) [(0, .slice _ _ _), (8, .slice _ _ _), (9, .int _ _)] [] (fun g => [(5, .int .i64 (lastC cs g)), (10, .int .i64 g)]) (fun g => []) (fun g => g ≤ n ∧ ∀ j, j < g → goodC ks (lastC cs j) (cs.getD j default)) (fun g => n - g) (0) (hz5 trivial) (sub_picks [] rfl) ?_ ?_
 ·exact ⟨Nat.zero_le _, fun j hj => absurd hj (Nat.not_lt_zero j)⟩
 intro g _f hI; obtain ⟨hg, hall⟩ := hI; refine s_seq (s_region ?_); refine ov (y_lss rfl rfl) (o_nil ?_); refine s_seq ?_; refine s_if rfl (fun h1 => ?_) (fun h2 => ?_)
 ·refine s_skip ?_; refine s_seq ?_; refine s_block ?_; refine s_seq (s_region ?_); refine ov (y_indexAddr Tryz.runUnderlying52 Tryz.sizeOf56 (some_at (sz := 1) encC_len (i := 0) hC (by omega)) rfl rfl (by omega)) ?_; refine ov (y_loads (cs := [_, _]) Tryz.isAgg56 Tryz.sizeOf56 rfl (by unfold idx; rw [Option.isSome_map]; exact some_at (sz := 1) encC_len (i := 0) hC (by omega)) rfl (cels_at (sz := 2) encC_len hC.here (by omega))) ?_; refine o_alloc rfl Tryz.zeroValue56 rfl (fun b3 => ?_); refine o_stores (vs := [(.int _ _), (.slice _ _ _)]) 0 rfl Tryz.sizeOf56 rfl rfl rfl (by simp [Value.oneCell']) (by simp) (o_nil ?_); refine s_seq ?_; refine s_seq ?_; refine s_drawn 0 (by kernel_rfl) ?_; have hcc := hCC _ (getD_mem' (show g < cs.length by omega) : (cs.getD ((g : Nat) : Int).toNat default) ∈ cs); have hlg := lastC_ge hall; refine dv 0 rfl rfl (y_field0 (F := 0) Tryz.runUnderlying56 rfl Tryz.sizeOf3 rfl rfl) ?_; refine dv 1 rfl rfl (y_load Tryz.isAgg3 rfl (cel_own 0 rfl rfl)) ?_; refine dv 2 rfl rfl (y_move (v := .int _ _) rfl) ?_; refine d_split (i := 3) rfl (by kernel_rfl) (by kernel_rfl) (by kernel_rfl) rfl rfl rfl (y_leq rfl rfl) (fun p4 => ?_) (fun p5 => ?_)
  ·refine dv 4 rfl rfl (y_move (v := .bool _) rfl) ?_; refine d_guard_no (i := 5) rfl (by kernel_rfl) (by kernel_rfl) (by kernel_rfl) rfl rfl rfl rfl rfl ?_; refine d_guard_no (i := 6) rfl (by kernel_rfl) (by kernel_rfl) (by kernel_rfl) rfl rfl rfl rfl rfl ?_; refine d_guard_no (i := 7) rfl (by kernel_rfl) (by kernel_rfl) (by kernel_rfl) rfl rfl rfl rfl rfl ?_; refine d_guard_no (i := 8) rfl (by kernel_rfl) (by kernel_rfl) (by kernel_rfl) rfl rfl rfl rfl rfl ?_; refine d_guard_no (i := 9) rfl (by kernel_rfl) (by kernel_rfl) (by kernel_rfl) rfl rfl rfl rfl rfl ?_; refine dv 10 rfl rfl (y_pick_t (v := .bool _) rfl rfl) ?_; refine dv 11 rfl rfl (y_move (v := .bool _) rfl) ?_; refine d_guard_no (i := 12) rfl (by kernel_rfl) (by kernel_rfl) (by kernel_rfl) rfl rfl rfl rfl rfl ?_; refine d_guard_no (i := 13) rfl (by kernel_rfl) (by kernel_rfl) (by kernel_rfl) rfl rfl rfl rfl rfl ?_; refine d_guard_no (i := 14) rfl (by kernel_rfl) (by kernel_rfl) (by kernel_rfl) rfl rfl rfl rfl rfl ?_; refine d_guard_no (i := 15) rfl (by kernel_rfl) (by kernel_rfl) (by kernel_rfl) rfl rfl rfl rfl rfl ?_; refine d_guard_no (i := 16) rfl (by kernel_rfl) (by kernel_rfl) (by kernel_rfl) rfl rfl rfl rfl rfl ?_; refine d_guard_no (i := 17) rfl (by kernel_rfl) (by kernel_rfl) (by kernel_rfl) rfl rfl rfl rfl rfl ?_; refine d_guard_no (i := 18) rfl (by kernel_rfl) (by kernel_rfl) (by kernel_rfl) rfl rfl rfl rfl rfl ?_; refine d_eff (k := 19) (n := 0) (m := 1) rfl (by kernel_rfl) rfl ?_; refine o_guard_no rfl rfl rfl rfl rfl (o_nil ?_); refine d_guard_no (i := 20) rfl (by kernel_rfl) (by kernel_rfl) (by kernel_rfl) rfl rfl rfl rfl rfl ?_; refine dv 21 rfl rfl (y_pick_t (v := .bool _) rfl rfl) ?_; refine d_nil (n := 0) (m := 1) (by kernel_rfl) rfl ?_; refine sf [(0, .slice _ _ _), (5, .int _ _), (7, .pointer _), (8, .slice _ _ _), (9, .int _ _), (10, .int _ _), (35, .bool _)] (fun _f => ?_); refine s_then rfl ?_; refine s_seq (s_region ?_); refine ov (y_assign (v := .bool _) rfl) (o_nil ?_); refine s_ret ?_; exact ⟨_, [], res1 rfl rfl, ⟨congrArg Value.bool (decide_eq_false (fun hh => by have : goodC ks (lastC cs g) (cs.getD ((g : Nat) : Int).toNat default) := hh g (by omega); unfold goodC at this; first | exact absurd this.2.2 (by assumption) | omega)).symm, rfl⟩, sub_picks [] rfl⟩
  ·refine dv 4 rfl rfl (y_move (v := .bool _) rfl) ?_; refine d_val_g (i := 5) rfl (by kernel_rfl) (by kernel_rfl) (by kernel_rfl) rfl rfl rfl rfl (y_field0 (F := 0) Tryz.runUnderlying56 rfl Tryz.sizeOf3 rfl rfl) ?_; refine d_val_g (i := 6) rfl (by kernel_rfl) (by kernel_rfl) (by kernel_rfl) rfl rfl rfl rfl (y_load Tryz.isAgg3 rfl (cel_own 0 rfl rfl)) ?_; refine d_val_g (i := 7) rfl (by kernel_rfl) (by kernel_rfl) (by kernel_rfl) rfl rfl rfl rfl (y_move (v := .slice _ _ _) rfl) ?_; refine d_val_g (i := 8) rfl (by kernel_rfl) (by kernel_rfl) (by kernel_rfl) rfl rfl rfl rfl (y_len Tryz.runUnderlying23 rfl) ?_; refine d_split_g (i := 9) rfl (by kernel_rfl) (by kernel_rfl) (by kernel_rfl) rfl rfl rfl rfl (y_geq rfl rfl) (fun p6 => ?_) (fun p7 => ?_)
   ·refine dv 10 rfl rfl (y_pick_f (v := .bool _) rfl rfl) ?_; refine dv 11 rfl rfl (y_move (v := .bool _) rfl) ?_; refine d_guard_no (i := 12) rfl (by kernel_rfl) (by kernel_rfl) (by kernel_rfl) rfl rfl rfl rfl rfl ?_; refine d_guard_no (i := 13) rfl (by kernel_rfl) (by kernel_rfl) (by kernel_rfl) rfl rfl rfl rfl rfl ?_; refine d_guard_no (i := 14) rfl (by kernel_rfl) (by kernel_rfl) (by kernel_rfl) rfl rfl rfl rfl rfl ?_; refine d_guard_no (i := 15) rfl (by kernel_rfl) (by kernel_rfl) (by kernel_rfl) rfl rfl rfl rfl rfl ?_; refine d_guard_no (i := 16) rfl (by kernel_rfl) (by kernel_rfl) (by kernel_rfl) rfl rfl rfl rfl rfl ?_; refine d_guard_no (i := 17) rfl (by kernel_rfl) (by kernel_rfl) (by kernel_rfl) rfl rfl rfl rfl rfl ?_; refine d_guard_no (i := 18) rfl (by kernel_rfl) (by kernel_rfl) (by kernel_rfl) rfl rfl rfl rfl rfl ?_; refine d_eff (k := 19) (n := 0) (m := 1) rfl (by kernel_rfl) rfl ?_; refine o_guard_no rfl rfl rfl rfl rfl (o_nil ?_); refine d_guard_no (i := 20) rfl (by kernel_rfl) (by kernel_rfl) (by kernel_rfl) rfl rfl rfl rfl rfl ?_; refine dv 21 rfl rfl (y_pick_t (v := .bool _) rfl rfl) ?_; refine d_nil (n := 0) (m := 1) (by kernel_rfl) rfl ?_; refine sf [(0, .slice _ _ _), (5, .int _ _), (7, .pointer _), (8, .slice _ _ _), (9, .int _ _), (10, .int _ _), (35, .bool _)] (fun _f => ?_); refine s_then rfl ?_; refine s_seq (s_region ?_); refine ov (y_assign (v := .bool _) rfl) (o_nil ?_); refine s_ret ?_; exact ⟨_, [], res1 rfl rfl, ⟨congrArg Value.bool (decide_eq_false (fun hh => by have : goodC ks (lastC cs g) (cs.getD ((g : Nat) : Int).toNat default) := hh g (by omega); unfold goodC at this; first | exact absurd this.2.2 (by assumption) | omega)).symm, rfl⟩, sub_picks [] rfl⟩
   ·refine dv 10 rfl rfl (y_pick_f (v := .bool _) rfl rfl) ?_; refine dv 11 rfl rfl (y_move (v := .bool _) rfl) ?_; refine d_val_g (i := 12) rfl (by kernel_rfl) (by kernel_rfl) (by kernel_rfl) rfl rfl rfl rfl (y_move (v := .slice _ _ _) rfl) ?_; refine d_val_g (i := 13) rfl (by kernel_rfl) (by kernel_rfl) (by kernel_rfl) rfl rfl rfl rfl (y_field0 (F := 0) Tryz.runUnderlying56 rfl Tryz.sizeOf3 rfl rfl) ?_; refine d_val_g (i := 14) rfl (by kernel_rfl) (by kernel_rfl) (by kernel_rfl) rfl rfl rfl rfl (y_load Tryz.isAgg3 rfl (cel_own 0 rfl rfl)) ?_; refine d_val_g (i := 15) rfl (by kernel_rfl) (by kernel_rfl) (by kernel_rfl) rfl rfl rfl rfl (y_indexAddr Tryz.runUnderlying23 Tryz.sizeOf79 (some_at (sz := 1) encK_len (i := 0) hK (by omega)) rfl rfl (by omega)) ?_; refine d_val_g (i := 16) rfl (by kernel_rfl) (by kernel_rfl) (by kernel_rfl) rfl rfl rfl rfl (y_loads (cs := [_, _]) Tryz.isAgg79 Tryz.sizeOf79 rfl (by unfold idx; rw [Option.isSome_map]; exact some_at (sz := 1) encK_len (i := 0) hK (by omega)) rfl (cels_at (sz := 2) encK_len hK.here (by omega))) ?_; refine d_val_g (i := 17) rfl (by kernel_rfl) (by kernel_rfl) (by kernel_rfl) rfl rfl rfl rfl (y_field0 (F := 1) Tryz.runUnderlying56 rfl Tryz.sizeOf22 rfl rfl) ?_; refine d_val_g (i := 18) rfl (by kernel_rfl) (by kernel_rfl) (by kernel_rfl) rfl rfl rfl rfl (y_load Tryz.isAgg22 rfl (cel_own 0 rfl rfl)) ?_; refine d_eff (k := 19) (n := 0) (m := 1) rfl (by kernel_rfl) rfl ?_; refine o_guard_yes rfl rfl ?_; refine o_fn 0 (d := 33) rfl Tryz.call108 (HoldsK_c (ks.getD (cs.getD ((g : Nat) : Int).toNat default).kind.toNat default) ((hKK _ (getD_mem' (by omega))).sub MSub.ext) (cs.getD ((g : Nat) : Int).toNat default).A (cs.getD ((g : Nat) : Int).toNat default).n (cs.getD ((g : Nat) : Int).toNat default).c (cs.getD ((g : Nat) : Int).toNat default).vs hcc.2.2.2.here.down hcc.1 hcc.2.2.1) rfl ?_; rintro _ _ ⟨rfl, rfl⟩; refine o_nil ?_; refine d_split_g (i := 20) rfl (by kernel_rfl) (by kernel_rfl) (by kernel_rfl) rfl rfl rfl rfl (y_not rfl) (fun p8 => ?_) (fun p9 => ?_)
    ·refine dv 21 rfl rfl (y_pick_f (v := .bool _) rfl rfl) ?_; refine d_nil (n := 0) (m := 1) (by kernel_rfl) rfl ?_; refine sf [(0, .slice _ _ _), (5, .int _ _), (7, .pointer _), (8, .slice _ _ _), (9, .int _ _), (10, .int _ _), (35, .bool _)] (fun _f => ?_); refine s_then rfl ?_; refine s_seq (s_region ?_); refine ov (y_assign (v := .bool _) rfl) (o_nil ?_); refine s_ret ?_; exact ⟨_, [], res1 rfl rfl, ⟨congrArg Value.bool (decide_eq_false (fun hh => by have : goodC ks (lastC cs g) (cs.getD ((g : Nat) : Int).toNat default) := hh g (by omega); unfold goodC at this; first | exact absurd this.2.2 (by assumption) | omega)).symm, rfl⟩, sub_picks [] rfl⟩
    ·refine dv 21 rfl rfl (y_pick_f (v := .bool _) rfl rfl) ?_; refine d_nil (n := 0) (m := 1) (by kernel_rfl) rfl ?_; refine sf [(0, .slice _ _ _), (5, .int _ _), (7, .pointer _), (8, .slice _ _ _), (9, .int _ _), (10, .int _ _), (35, .bool _)] (fun _f => ?_); refine s_else rfl ?_; refine s_skip ?_; refine s_region ?_; refine ov (y_field0 (F := 0) Tryz.runUnderlying56 rfl Tryz.sizeOf3 rfl rfl) ?_; refine ov (y_load Tryz.isAgg3 rfl (cel_own 0 rfl rfl)) ?_; refine ov (y_assign (v := .int _ _) rfl) (o_nil ?_); refine s_region ?_; refine ov (y_add rfl rfl (by simp only [inK]; omega)) ?_; refine ov (y_move (v := .int _ _) rfl) (o_nil ?_); exact ⟨g + 1, (by first | omega | (dsimp only; omega)), ⟨by omega, all_next hall (show goodC ks (lastC cs g) (cs.getD ((g : Nat) : Int).toNat default) from ⟨by omega, by omega, by first | assumption | exact Decidable.not_not.1 (by assumption)⟩)⟩, ⟨rfl, (congrArg (Value.int .i64) (by omega)), hz3 trivial⟩, (sub_picks [] rfl)⟩
 ·refine s_exit ?_; refine s_seq (s_region ?_); refine ov (y_assign (v := .bool _) rfl) (o_nil ?_); refine s_ret ?_; exact ⟨_, [], res1 rfl rfl, ⟨congrArg Value.bool (decide_eq_true (fun j hj => hall j (by omega))).symm, rfl⟩, sub_picks [] rfl⟩

theorem CheckW_c {V : Mem} (w : WR) (hw : WOK V w) : CallS Tryz.prog 45 [.agg #[.slice w.kA w.kn w.kc, .slice w.gA w.gn w.gc, .slice w.iA w.iN w.iC]].toArray V [] (fun r L' => r = .int .i64 (wErr w.ks w.gs w.its) ∧ L' = []) := by
 obtain ⟨⟨hwKl, hwKc, hwKb, hwK, hwKK⟩, ⟨hwGl, hwGc, hwGb, hwG⟩, ⟨hwIl, hwIc, hwIb, hwI, hwII⟩⟩ := hw; refine callS Tryz.func45 rfl rfl (fun w0 => ?_); refine s_seq (s_region ?_); refine o_box (v := (.agg #[(.slice _ _ _), (.slice _ _ _), (.slice _ _ _)])) rfl rfl rfl (fun b1 => ?_); refine ov (y_assign (v := .int _ _) rfl) (o_nil ?_); refine s_seq ?_; refine s_seq (s_region ?_); refine ov (y_field0 (F := 0) Tryz.runUnderlying35 rfl Tryz.sizeOf23 rfl rfl) ?_; refine ov (y_load Tryz.isAgg23 rfl (cel_own 0 rfl rfl)) ?_; refine o_fn 0 (d := 11) rfl Tryz.call68 (CheckK_c w.kA w.kn w.kc w.ks hwK.here.down hwKl hwKc (by omega) (fun x hx => (hwKK x hx).sub MSub.ext)) rfl ?_; rintro _ _ ⟨rfl, rfl⟩; refine ov (y_assign (v := .int _ _) rfl) (o_nil ?_); refine s_seq (s_region ?_); refine ov (y_move (v := .int _ _) rfl) ?_; refine ov (y_neq rfl rfl) (o_nil ?_); refine s_if rfl (fun h2 => ?_) (fun h3 => ?_)
 ·have hck := h2; refine s_seq (s_region ?_); refine ov (y_move (v := .int _ _) rfl) ?_; refine ov (y_assign (v := .int _ _) rfl) (o_nil ?_); refine s_ret ?_; exact ⟨_, [], res1 rfl rfl, ⟨congrArg (Value.int .i64) (by unfold wErr; rw [if_pos hck]), rfl⟩, sub_picks [] rfl⟩
 ·have hck := Decidable.not_not.1 h3; refine s_skip ?_; refine s_seq ?_; refine s_seq (s_region ?_); refine ov (y_field0 (F := 1) Tryz.runUnderlying35 rfl Tryz.sizeOf22 rfl rfl) ?_; refine ov (y_load Tryz.isAgg22 rfl (cel_own 0 rfl rfl)) ?_; refine ov (y_len Tryz.runUnderlying22 rfl) ?_; refine o_split rfl rfl rfl (y_gtr rfl rfl) (fun p4 => ?_) (fun p5 => ?_)
  ·refine ov (y_move (v := .bool _) rfl) ?_; refine gn ?_; refine gn ?_; refine gn ?_; refine gn ?_; refine gn ?_; refine gn ?_; refine gn ?_; refine ov (y_pick_t (v := .bool _) rfl rfl) (o_nil ?_); refine sf [(1, .pointer _), (2, .int _ _), (27, .bool _)] (fun _f => ?_); refine s_then rfl ?_; refine s_seq (s_region ?_); refine ov (y_assign (v := .int _ _) rfl) (o_nil ?_); refine s_ret ?_; exact ⟨_, [], res1 rfl rfl, ⟨congrArg (Value.int .i64) (by unfold wErr; rw [if_neg (show ¬ ckErr w.ks ≠ 0 from fun hh => hh hck)]; rw [if_pos (by omega)]), rfl⟩, sub_picks [] rfl⟩
  ·refine ov (y_move (v := .bool _) rfl) ?_; refine o_guard_yes rfl rfl ?_; refine ov (y_field0 (F := 2) Tryz.runUnderlying35 rfl Tryz.sizeOf33 rfl rfl) ?_; refine o_guard_yes rfl rfl ?_; refine ov (y_load Tryz.isAgg33 rfl (cel_own 0 rfl rfl)) ?_; refine o_guard_yes rfl rfl ?_; refine ov (y_len Tryz.runUnderlying33 rfl) ?_; refine o_guard_yes rfl rfl ?_; refine ov (y_field0 (F := 1) Tryz.runUnderlying35 rfl Tryz.sizeOf22 rfl rfl) ?_; refine o_guard_yes rfl rfl ?_; refine ov (y_load Tryz.isAgg22 rfl (cel_own 0 rfl rfl)) ?_; refine o_guard_yes rfl rfl ?_; refine ov (y_len Tryz.runUnderlying22 rfl) ?_; refine o_guard_yes rfl rfl ?_; refine ov (y_gtr rfl rfl) ?_; refine ov (y_pick_f (v := .bool _) rfl rfl) (o_nil ?_); refine sf [(1, .pointer _), (2, .int _ _), (27, .bool _)] (fun _f => ?_); refine s_if rfl (fun h6 => ?_) (fun h7 => ?_)
   ·refine s_seq (s_region ?_); refine ov (y_assign (v := .int _ _) rfl) (o_nil ?_); refine s_ret ?_; exact ⟨_, [], res1 rfl rfl, ⟨congrArg (Value.int .i64) (by unfold wErr; rw [if_neg (show ¬ ckErr w.ks ≠ 0 from fun hh => hh hck)]; rw [if_pos (by omega)]), rfl⟩, sub_picks [] rfl⟩
   ·refine s_skip ?_; refine s_seq ?_; refine s_seq (s_region ?_); refine ov (y_field0 (F := 1) Tryz.runUnderlying35 rfl Tryz.sizeOf22 rfl rfl) ?_; refine ov (y_load Tryz.isAgg22 rfl (cel_own 0 rfl rfl)) ?_; refine ov (y_len Tryz.runUnderlying22 rfl) ?_; refine ov (y_move (v := .int _ _) rfl) (o_nil ?_); refine s_block ?_; refine s_loopK (γ := Nat) [(1, .pointer _), (29, .slice _ _ _), (30, .int _ _)] [_] (fun g => [(31, .int .i64 g)]) (fun g => []) (fun g => g ≤ w.gn ∧ ∀ j, j < g → 0 ≤ w.gs.getD j 0 ∧ w.gs.getD j 0 ≤ 1073741824) (fun g => w.gn - g) (0) (hz4 trivial) (sub_picks [0] rfl) ?_ ?_
    ·exact ⟨Nat.zero_le _, fun j hj => absurd hj (Nat.not_lt_zero j)⟩
    intro g _f hI; obtain ⟨hg, hgall⟩ := hI; refine s_seq (s_region ?_); refine ov (y_lss rfl rfl) (o_nil ?_); refine s_seq ?_; refine s_if rfl (fun h8 => ?_) (fun h9 => ?_)
    ·refine s_skip ?_; refine s_seq ?_; refine s_block ?_; refine s_seq (s_region ?_); refine ov (y_index1 Tryz.runUnderlying22 Tryz.sizeOf3 (some_int (i := 0) hwG (by omega)) rfl rfl (by omega)) ?_; refine ov (y_load Tryz.isAgg3 rfl (cel_int hwG.here (by omega))) ?_; refine ov (y_assign (v := .int _ _) rfl) (o_nil ?_); refine s_seq (s_region ?_); refine ov (y_move (v := .int _ _) rfl) ?_; refine o_split rfl rfl rfl (y_lss rfl rfl) (fun p10 => ?_) (fun p11 => ?_)
     ·refine ov (y_move (v := .bool _) rfl) ?_; refine gn ?_; refine gn ?_; refine ov (y_pick_t (v := .bool _) rfl rfl) (o_nil ?_); refine sf [(1, .pointer _), (29, .slice _ _ _), (30, .int _ _), (31, .int _ _), (40, .bool _)] (fun _f => ?_); refine s_then rfl ?_; refine s_seq (s_region ?_); refine ov (y_assign (v := .int _ _) rfl) (o_nil ?_); refine s_ret ?_; exact ⟨_, [], res1 rfl rfl, ⟨congrArg (Value.int .i64) (by unfold wErr; rw [if_neg (show ¬ ckErr w.ks ≠ 0 from fun hh => hh hck)]; rw [if_neg (by omega)]; rw [if_neg (fun hh => by have : 0 ≤ w.gs.getD ((g : Nat) : Int).toNat 0 ∧ w.gs.getD ((g : Nat) : Int).toNat 0 ≤ 1073741824 := hh.1 g (by omega); omega)]), rfl⟩, sub_picks [] rfl⟩
     ·refine ov (y_move (v := .bool _) rfl) ?_; refine o_guard_yes rfl rfl ?_; refine ov (y_move (v := .int _ _) rfl) ?_; refine o_guard_yes rfl rfl ?_; refine ov (y_gtr rfl rfl) ?_; refine ov (y_pick_f (v := .bool _) rfl rfl) (o_nil ?_); refine sf [(1, .pointer _), (29, .slice _ _ _), (30, .int _ _), (31, .int _ _), (40, .bool _)] (fun _f => ?_); refine s_if rfl (fun h12 => ?_) (fun h13 => ?_)
      ·refine s_seq (s_region ?_); refine ov (y_assign (v := .int _ _) rfl) (o_nil ?_); refine s_ret ?_; exact ⟨_, [], res1 rfl rfl, ⟨congrArg (Value.int .i64) (by unfold wErr; rw [if_neg (show ¬ ckErr w.ks ≠ 0 from fun hh => hh hck)]; rw [if_neg (by omega)]; rw [if_neg (fun hh => by have : 0 ≤ w.gs.getD ((g : Nat) : Int).toNat 0 ∧ w.gs.getD ((g : Nat) : Int).toNat 0 ≤ 1073741824 := hh.1 g (by omega); omega)]), rfl⟩, sub_picks [] rfl⟩
      ·refine s_skip ?_; refine s_region ?_; refine ov (y_add rfl rfl (by simp only [inK]; omega)) ?_; refine ov (y_move (v := .int _ _) rfl) (o_nil ?_); exact ⟨g + 1, (by first | omega | (dsimp only; omega)), ⟨by omega, all_next hgall (show 0 ≤ w.gs.getD ((g : Nat) : Int).toNat 0 ∧ w.gs.getD ((g : Nat) : Int).toNat 0 ≤ 1073741824 by omega)⟩, ⟨(congrArg (Value.int .i64) (by omega)), hz3 trivial⟩, (sub_picks [0] rfl)⟩
    ·refine s_exit ?_; refine s_seq (s_region ?_); refine ov (y_assign (v := .int _ _) rfl) (o_nil ?_); refine s_seq ?_; refine s_seq (s_region ?_); refine ov (y_field0 (F := 2) Tryz.runUnderlying35 rfl Tryz.sizeOf33 rfl rfl) ?_; refine ov (y_load Tryz.isAgg33 rfl (cel_own 0 rfl rfl)) ?_; refine ov (y_len Tryz.runUnderlying33 rfl) ?_; refine ov (y_move (v := .int _ _) rfl) (o_nil ?_); refine s_block ?_; refine s_loopK (γ := Nat) [(1, .pointer _), (43, .slice _ _ _), (44, .int _ _)] [_] (fun u => [(6, .int .i64 (lastI w.its u)), (45, .int .i64 u)]) (fun u => []) (fun u => u ≤ w.iN ∧ ∀ j, j < u → goodI w.ks w.gs (lastI w.its j) (w.its.getD j default)) (fun u => w.iN - u) (0) (hz5 trivial) (sub_picks [0] rfl) ?_ ?_
     ·exact ⟨Nat.zero_le _, fun j hj => absurd hj (Nat.not_lt_zero j)⟩
     intro u _f hJ; obtain ⟨hu, hall⟩ := hJ; refine s_seq (s_region ?_); refine ov (y_lss rfl rfl) (o_nil ?_); refine s_seq ?_; refine s_if rfl (fun h14 => ?_) (fun h15 => ?_)
     ·refine s_skip ?_; refine s_seq ?_; refine s_block ?_; refine s_seq (s_region ?_); refine ov (y_indexAddr Tryz.runUnderlying33 Tryz.sizeOf54 (some_at (sz := 2) encIt_len (i := 0) hwI (by omega)) rfl rfl (by omega)) ?_; refine ov (y_loads (cs := [_, _, _]) Tryz.isAgg54 Tryz.sizeOf54 rfl (by unfold idx; rw [Option.isSome_map]; exact some_at (sz := 2) encIt_len (i := 0) hwI (by omega)) rfl (cels_at (sz := 3) encIt_len hwI.here (by omega))) ?_; refine o_alloc rfl Tryz.zeroValue54 rfl (fun b16 => ?_); refine o_stores (vs := [(.int _ _), (.int _ _), (.slice _ _ _)]) 1 rfl Tryz.sizeOf54 rfl rfl rfl (by simp [Value.oneCell']) (by simp) (o_nil ?_); refine s_seq ?_; refine s_seq ?_; refine s_drawn 0 (by kernel_rfl) ?_; have hii := hwII _ (getD_mem' (show u < w.its.length by omega) : (w.its.getD ((u : Nat) : Int).toNat default) ∈ w.its); have hlg := lastI_ge hall; refine dv 0 rfl rfl (y_field0 (F := 0) Tryz.runUnderlying54 rfl Tryz.sizeOf51 rfl rfl) ?_; refine dv 1 rfl rfl (y_field0 (F := 0) Tryz.runUnderlying51 rfl Tryz.sizeOf3 rfl rfl) ?_; refine dv 2 rfl rfl (y_load Tryz.isAgg3 rfl (cel_own 1 rfl rfl)) ?_; refine dv 3 rfl rfl (y_move (v := .int _ _) rfl) ?_; refine d_split (i := 4) rfl (by kernel_rfl) (by kernel_rfl) (by kernel_rfl) rfl rfl rfl (y_leq rfl rfl) (fun p17 => ?_) (fun p18 => ?_)
      ·refine dv 5 rfl rfl (y_move (v := .bool _) rfl) ?_; refine d_guard_no (i := 6) rfl (by kernel_rfl) (by kernel_rfl) (by kernel_rfl) rfl rfl rfl rfl rfl ?_; refine d_guard_no (i := 7) rfl (by kernel_rfl) (by kernel_rfl) (by kernel_rfl) rfl rfl rfl rfl rfl ?_; refine d_guard_no (i := 8) rfl (by kernel_rfl) (by kernel_rfl) (by kernel_rfl) rfl rfl rfl rfl rfl ?_; refine d_guard_no (i := 9) rfl (by kernel_rfl) (by kernel_rfl) (by kernel_rfl) rfl rfl rfl rfl rfl ?_; refine d_guard_no (i := 10) rfl (by kernel_rfl) (by kernel_rfl) (by kernel_rfl) rfl rfl rfl rfl rfl ?_; refine d_guard_no (i := 11) rfl (by kernel_rfl) (by kernel_rfl) (by kernel_rfl) rfl rfl rfl rfl rfl ?_; refine d_guard_no (i := 12) rfl (by kernel_rfl) (by kernel_rfl) (by kernel_rfl) rfl rfl rfl rfl rfl ?_; refine dv 13 rfl rfl (y_pick_t (v := .bool _) rfl rfl) ?_; refine dv 14 rfl rfl (y_move (v := .bool _) rfl) ?_; refine d_guard_no (i := 15) rfl (by kernel_rfl) (by kernel_rfl) (by kernel_rfl) rfl rfl rfl rfl rfl ?_; refine d_guard_no (i := 16) rfl (by kernel_rfl) (by kernel_rfl) (by kernel_rfl) rfl rfl rfl rfl rfl ?_; refine d_guard_no (i := 17) rfl (by kernel_rfl) (by kernel_rfl) (by kernel_rfl) rfl rfl rfl rfl rfl ?_; refine d_guard_no (i := 18) rfl (by kernel_rfl) (by kernel_rfl) (by kernel_rfl) rfl rfl rfl rfl rfl ?_; refine d_guard_no (i := 19) rfl (by kernel_rfl) (by kernel_rfl) (by kernel_rfl) rfl rfl rfl rfl rfl ?_; refine d_guard_no (i := 20) rfl (by kernel_rfl) (by kernel_rfl) (by kernel_rfl) rfl rfl rfl rfl rfl ?_; refine d_guard_no (i := 21) rfl (by kernel_rfl) (by kernel_rfl) (by kernel_rfl) rfl rfl rfl rfl rfl ?_; refine d_guard_no (i := 22) rfl (by kernel_rfl) (by kernel_rfl) (by kernel_rfl) rfl rfl rfl rfl rfl ?_; refine d_guard_no (i := 23) rfl (by kernel_rfl) (by kernel_rfl) (by kernel_rfl) rfl rfl rfl rfl rfl ?_; refine d_guard_no (i := 24) rfl (by kernel_rfl) (by kernel_rfl) (by kernel_rfl) rfl rfl rfl rfl rfl ?_; refine d_guard_no (i := 25) rfl (by kernel_rfl) (by kernel_rfl) (by kernel_rfl) rfl rfl rfl rfl rfl ?_; refine dv 26 rfl rfl (y_pick_t (v := .bool _) rfl rfl) ?_; refine dv 27 rfl rfl (y_move (v := .bool _) rfl) ?_; refine d_guard_no (i := 28) rfl (by kernel_rfl) (by kernel_rfl) (by kernel_rfl) rfl rfl rfl rfl rfl ?_; refine d_guard_no (i := 29) rfl (by kernel_rfl) (by kernel_rfl) (by kernel_rfl) rfl rfl rfl rfl rfl ?_; refine d_guard_no (i := 30) rfl (by kernel_rfl) (by kernel_rfl) (by kernel_rfl) rfl rfl rfl rfl rfl ?_; refine d_guard_no (i := 31) rfl (by kernel_rfl) (by kernel_rfl) (by kernel_rfl) rfl rfl rfl rfl rfl ?_; refine dv 32 rfl rfl (y_pick_t (v := .bool _) rfl rfl) ?_; refine dv 33 rfl rfl (y_move (v := .bool _) rfl) ?_; refine d_guard_no (i := 34) rfl (by kernel_rfl) (by kernel_rfl) (by kernel_rfl) rfl rfl rfl rfl rfl ?_; refine d_guard_no (i := 35) rfl (by kernel_rfl) (by kernel_rfl) (by kernel_rfl) rfl rfl rfl rfl rfl ?_; refine d_guard_no (i := 36) rfl (by kernel_rfl) (by kernel_rfl) (by kernel_rfl) rfl rfl rfl rfl rfl ?_; refine d_guard_no (i := 37) rfl (by kernel_rfl) (by kernel_rfl) (by kernel_rfl) rfl rfl rfl rfl rfl ?_; refine d_eff (k := 38) (n := 0) (m := 2) rfl (by kernel_rfl) rfl ?_; refine o_guard_no rfl rfl rfl rfl rfl (o_nil ?_); refine d_guard_no (i := 39) rfl (by kernel_rfl) (by kernel_rfl) (by kernel_rfl) rfl rfl rfl rfl rfl ?_; refine dv 40 rfl rfl (y_pick_t (v := .bool _) rfl rfl) ?_; refine d_nil (n := 0) (m := 2) (by kernel_rfl) rfl ?_; refine sf [(1, .pointer _), (6, .int _ _), (8, .pointer _), (43, .slice _ _ _), (44, .int _ _), (45, .int _ _), (89, .bool _)] (fun _f => ?_); refine s_then rfl ?_; refine s_seq (s_region ?_); refine ov (y_assign (v := .int _ _) rfl) (o_nil ?_); refine s_ret ?_; exact ⟨_, [], res1 rfl rfl, ⟨congrArg (Value.int .i64) (by unfold wErr; rw [if_neg (show ¬ ckErr w.ks ≠ 0 from fun hh => hh hck)]; rw [if_neg (by omega)]; rw [if_neg (fun hh => by have : goodI w.ks w.gs (lastI w.its u) (w.its.getD ((u : Nat) : Int).toNat default) := hh.2 u (by omega); unfold goodI at this; first | exact absurd this.2.2.2.2 (by assumption) | omega)]), rfl⟩, sub_picks [] rfl⟩
      ·refine dv 5 rfl rfl (y_move (v := .bool _) rfl) ?_; refine d_val_g (i := 6) rfl (by kernel_rfl) (by kernel_rfl) (by kernel_rfl) rfl rfl rfl rfl (y_field0 (F := 0) Tryz.runUnderlying54 rfl Tryz.sizeOf51 rfl rfl) ?_; refine d_val_g (i := 7) rfl (by kernel_rfl) (by kernel_rfl) (by kernel_rfl) rfl rfl rfl rfl (y_field0 (F := 0) Tryz.runUnderlying51 rfl Tryz.sizeOf3 rfl rfl) ?_; refine d_val_g (i := 8) rfl (by kernel_rfl) (by kernel_rfl) (by kernel_rfl) rfl rfl rfl rfl (y_load Tryz.isAgg3 rfl (cel_own 1 rfl rfl)) ?_; refine d_val_g (i := 9) rfl (by kernel_rfl) (by kernel_rfl) (by kernel_rfl) rfl rfl rfl rfl (y_field0 (F := 1) Tryz.runUnderlying35 rfl Tryz.sizeOf22 rfl rfl) ?_; refine d_val_g (i := 10) rfl (by kernel_rfl) (by kernel_rfl) (by kernel_rfl) rfl rfl rfl rfl (y_load Tryz.isAgg22 rfl (cel_own 0 rfl rfl)) ?_; refine d_val_g (i := 11) rfl (by kernel_rfl) (by kernel_rfl) (by kernel_rfl) rfl rfl rfl rfl (y_len Tryz.runUnderlying22 rfl) ?_; refine d_split_g (i := 12) rfl (by kernel_rfl) (by kernel_rfl) (by kernel_rfl) rfl rfl rfl rfl (y_geq rfl rfl) (fun p19 => ?_) (fun p20 => ?_)
       ·refine dv 13 rfl rfl (y_pick_f (v := .bool _) rfl rfl) ?_; refine dv 14 rfl rfl (y_move (v := .bool _) rfl) ?_; refine d_guard_no (i := 15) rfl (by kernel_rfl) (by kernel_rfl) (by kernel_rfl) rfl rfl rfl rfl rfl ?_; refine d_guard_no (i := 16) rfl (by kernel_rfl) (by kernel_rfl) (by kernel_rfl) rfl rfl rfl rfl rfl ?_; refine d_guard_no (i := 17) rfl (by kernel_rfl) (by kernel_rfl) (by kernel_rfl) rfl rfl rfl rfl rfl ?_; refine d_guard_no (i := 18) rfl (by kernel_rfl) (by kernel_rfl) (by kernel_rfl) rfl rfl rfl rfl rfl ?_; refine d_guard_no (i := 19) rfl (by kernel_rfl) (by kernel_rfl) (by kernel_rfl) rfl rfl rfl rfl rfl ?_; refine d_guard_no (i := 20) rfl (by kernel_rfl) (by kernel_rfl) (by kernel_rfl) rfl rfl rfl rfl rfl ?_; refine d_guard_no (i := 21) rfl (by kernel_rfl) (by kernel_rfl) (by kernel_rfl) rfl rfl rfl rfl rfl ?_; refine d_guard_no (i := 22) rfl (by kernel_rfl) (by kernel_rfl) (by kernel_rfl) rfl rfl rfl rfl rfl ?_; refine d_guard_no (i := 23) rfl (by kernel_rfl) (by kernel_rfl) (by kernel_rfl) rfl rfl rfl rfl rfl ?_; refine d_guard_no (i := 24) rfl (by kernel_rfl) (by kernel_rfl) (by kernel_rfl) rfl rfl rfl rfl rfl ?_; refine d_guard_no (i := 25) rfl (by kernel_rfl) (by kernel_rfl) (by kernel_rfl) rfl rfl rfl rfl rfl ?_; refine dv 26 rfl rfl (y_pick_t (v := .bool _) rfl rfl) ?_; refine dv 27 rfl rfl (y_move (v := .bool _) rfl) ?_; refine d_guard_no (i := 28) rfl (by kernel_rfl) (by kernel_rfl) (by kernel_rfl) rfl rfl rfl rfl rfl ?_; refine d_guard_no (i := 29) rfl (by kernel_rfl) (by kernel_rfl) (by kernel_rfl) rfl rfl rfl rfl rfl ?_; refine d_guard_no (i := 30) rfl (by kernel_rfl) (by kernel_rfl) (by kernel_rfl) rfl rfl rfl rfl rfl ?_; refine d_guard_no (i := 31) rfl (by kernel_rfl) (by kernel_rfl) (by kernel_rfl) rfl rfl rfl rfl rfl ?_; refine dv 32 rfl rfl (y_pick_t (v := .bool _) rfl rfl) ?_; refine dv 33 rfl rfl (y_move (v := .bool _) rfl) ?_; refine d_guard_no (i := 34) rfl (by kernel_rfl) (by kernel_rfl) (by kernel_rfl) rfl rfl rfl rfl rfl ?_; refine d_guard_no (i := 35) rfl (by kernel_rfl) (by kernel_rfl) (by kernel_rfl) rfl rfl rfl rfl rfl ?_; refine d_guard_no (i := 36) rfl (by kernel_rfl) (by kernel_rfl) (by kernel_rfl) rfl rfl rfl rfl rfl ?_; refine d_guard_no (i := 37) rfl (by kernel_rfl) (by kernel_rfl) (by kernel_rfl) rfl rfl rfl rfl rfl ?_; refine d_eff (k := 38) (n := 0) (m := 2) rfl (by kernel_rfl) rfl ?_; refine o_guard_no rfl rfl rfl rfl rfl (o_nil ?_); refine d_guard_no (i := 39) rfl (by kernel_rfl) (by kernel_rfl) (by kernel_rfl) rfl rfl rfl rfl rfl ?_; refine dv 40 rfl rfl (y_pick_t (v := .bool _) rfl rfl) ?_; refine d_nil (n := 0) (m := 2) (by kernel_rfl) rfl ?_; refine sf [(1, .pointer _), (6, .int _ _), (8, .pointer _), (43, .slice _ _ _), (44, .int _ _), (45, .int _ _), (89, .bool _)] (fun _f => ?_); refine s_then rfl ?_; refine s_seq (s_region ?_); refine ov (y_assign (v := .int _ _) rfl) (o_nil ?_); refine s_ret ?_; exact ⟨_, [], res1 rfl rfl, ⟨congrArg (Value.int .i64) (by unfold wErr; rw [if_neg (show ¬ ckErr w.ks ≠ 0 from fun hh => hh hck)]; rw [if_neg (by omega)]; rw [if_neg (fun hh => by have : goodI w.ks w.gs (lastI w.its u) (w.its.getD ((u : Nat) : Int).toNat default) := hh.2 u (by omega); unfold goodI at this; first | exact absurd this.2.2.2.2 (by assumption) | omega)]), rfl⟩, sub_picks [] rfl⟩
       ·refine dv 13 rfl rfl (y_pick_f (v := .bool _) rfl rfl) ?_; refine dv 14 rfl rfl (y_move (v := .bool _) rfl) ?_; refine d_val_g (i := 15) rfl (by kernel_rfl) (by kernel_rfl) (by kernel_rfl) rfl rfl rfl rfl (y_field0 (F := 0) Tryz.runUnderlying54 rfl Tryz.sizeOf51 rfl rfl) ?_; refine d_val_g (i := 16) rfl (by kernel_rfl) (by kernel_rfl) (by kernel_rfl) rfl rfl rfl rfl (y_field0 (F := 1) Tryz.runUnderlying51 rfl Tryz.sizeOf3 rfl rfl) ?_; refine d_val_g (i := 17) rfl (by kernel_rfl) (by kernel_rfl) (by kernel_rfl) rfl rfl rfl rfl (y_load Tryz.isAgg3 rfl (cel_own 1 rfl rfl)) ?_; refine d_val_g (i := 18) rfl (by kernel_rfl) (by kernel_rfl) (by kernel_rfl) rfl rfl rfl rfl (y_field0 (F := 1) Tryz.runUnderlying35 rfl Tryz.sizeOf22 rfl rfl) ?_; refine d_val_g (i := 19) rfl (by kernel_rfl) (by kernel_rfl) (by kernel_rfl) rfl rfl rfl rfl (y_load Tryz.isAgg22 rfl (cel_own 0 rfl rfl)) ?_; refine d_val_g (i := 20) rfl (by kernel_rfl) (by kernel_rfl) (by kernel_rfl) rfl rfl rfl rfl (y_field0 (F := 0) Tryz.runUnderlying54 rfl Tryz.sizeOf51 rfl rfl) ?_; refine d_val_g (i := 21) rfl (by kernel_rfl) (by kernel_rfl) (by kernel_rfl) rfl rfl rfl rfl (y_field0 (F := 0) Tryz.runUnderlying51 rfl Tryz.sizeOf3 rfl rfl) ?_; refine d_val_g (i := 22) rfl (by kernel_rfl) (by kernel_rfl) (by kernel_rfl) rfl rfl rfl rfl (y_load Tryz.isAgg3 rfl (cel_own 1 rfl rfl)) ?_; refine d_val_g (i := 23) rfl (by kernel_rfl) (by kernel_rfl) (by kernel_rfl) rfl rfl rfl rfl (y_index1 Tryz.runUnderlying22 Tryz.sizeOf3 (some_int (i := 0) hwG (by omega)) rfl rfl (by omega)) ?_; refine d_val_g (i := 24) rfl (by kernel_rfl) (by kernel_rfl) (by kernel_rfl) rfl rfl rfl rfl (y_load Tryz.isAgg3 rfl (cel_int hwG.here (by omega))) ?_; refine d_split_g (i := 25) rfl (by kernel_rfl) (by kernel_rfl) (by kernel_rfl) rfl rfl rfl rfl (y_neq rfl rfl) (fun p21 => ?_) (fun p22 => ?_)
        ·refine dv 26 rfl rfl (y_pick_f (v := .bool _) rfl rfl) ?_; refine dv 27 rfl rfl (y_move (v := .bool _) rfl) ?_; refine d_guard_no (i := 28) rfl (by kernel_rfl) (by kernel_rfl) (by kernel_rfl) rfl rfl rfl rfl rfl ?_; refine d_guard_no (i := 29) rfl (by kernel_rfl) (by kernel_rfl) (by kernel_rfl) rfl rfl rfl rfl rfl ?_; refine d_guard_no (i := 30) rfl (by kernel_rfl) (by kernel_rfl) (by kernel_rfl) rfl rfl rfl rfl rfl ?_; refine d_guard_no (i := 31) rfl (by kernel_rfl) (by kernel_rfl) (by kernel_rfl) rfl rfl rfl rfl rfl ?_; refine dv 32 rfl rfl (y_pick_t (v := .bool _) rfl rfl) ?_; refine dv 33 rfl rfl (y_move (v := .bool _) rfl) ?_; refine d_guard_no (i := 34) rfl (by kernel_rfl) (by kernel_rfl) (by kernel_rfl) rfl rfl rfl rfl rfl ?_; refine d_guard_no (i := 35) rfl (by kernel_rfl) (by kernel_rfl) (by kernel_rfl) rfl rfl rfl rfl rfl ?_; refine d_guard_no (i := 36) rfl (by kernel_rfl) (by kernel_rfl) (by kernel_rfl) rfl rfl rfl rfl rfl ?_; refine d_guard_no (i := 37) rfl (by kernel_rfl) (by kernel_rfl) (by kernel_rfl) rfl rfl rfl rfl rfl ?_; refine d_eff (k := 38) (n := 0) (m := 2) rfl (by kernel_rfl) rfl ?_; refine o_guard_no rfl rfl rfl rfl rfl (o_nil ?_); refine d_guard_no (i := 39) rfl (by kernel_rfl) (by kernel_rfl) (by kernel_rfl) rfl rfl rfl rfl rfl ?_; refine dv 40 rfl rfl (y_pick_t (v := .bool _) rfl rfl) ?_; refine d_nil (n := 0) (m := 2) (by kernel_rfl) rfl ?_; refine sf [(1, .pointer _), (6, .int _ _), (8, .pointer _), (43, .slice _ _ _), (44, .int _ _), (45, .int _ _), (89, .bool _)] (fun _f => ?_); refine s_then rfl ?_; refine s_seq (s_region ?_); refine ov (y_assign (v := .int _ _) rfl) (o_nil ?_); refine s_ret ?_; exact ⟨_, [], res1 rfl rfl, ⟨congrArg (Value.int .i64) (by unfold wErr; rw [if_neg (show ¬ ckErr w.ks ≠ 0 from fun hh => hh hck)]; rw [if_neg (by omega)]; rw [if_neg (fun hh => by have : goodI w.ks w.gs (lastI w.its u) (w.its.getD ((u : Nat) : Int).toNat default) := hh.2 u (by omega); unfold goodI at this; first | exact absurd this.2.2.2.2 (by assumption) | omega)]), rfl⟩, sub_picks [] rfl⟩
        ·refine dv 26 rfl rfl (y_pick_f (v := .bool _) rfl rfl) ?_; refine dv 27 rfl rfl (y_move (v := .bool _) rfl) ?_; refine d_val_g (i := 28) rfl (by kernel_rfl) (by kernel_rfl) (by kernel_rfl) rfl rfl rfl rfl (y_field0 (F := 0) Tryz.runUnderlying54 rfl Tryz.sizeOf51 rfl rfl) ?_; refine d_val_g (i := 29) rfl (by kernel_rfl) (by kernel_rfl) (by kernel_rfl) rfl rfl rfl rfl (y_field0 (F := 1) Tryz.runUnderlying51 rfl Tryz.sizeOf3 rfl rfl) ?_; refine d_val_g (i := 30) rfl (by kernel_rfl) (by kernel_rfl) (by kernel_rfl) rfl rfl rfl rfl (y_load Tryz.isAgg3 rfl (cel_own 1 rfl rfl)) ?_; refine d_split_g (i := 31) rfl (by kernel_rfl) (by kernel_rfl) (by kernel_rfl) rfl rfl rfl rfl (y_eql rfl rfl) (fun p23 => ?_) (fun p24 => ?_)
         ·refine dv 32 rfl rfl (y_pick_f (v := .bool _) rfl rfl) ?_; refine dv 33 rfl rfl (y_move (v := .bool _) rfl) ?_; refine d_guard_no (i := 34) rfl (by kernel_rfl) (by kernel_rfl) (by kernel_rfl) rfl rfl rfl rfl rfl ?_; refine d_guard_no (i := 35) rfl (by kernel_rfl) (by kernel_rfl) (by kernel_rfl) rfl rfl rfl rfl rfl ?_; refine d_guard_no (i := 36) rfl (by kernel_rfl) (by kernel_rfl) (by kernel_rfl) rfl rfl rfl rfl rfl ?_; refine d_guard_no (i := 37) rfl (by kernel_rfl) (by kernel_rfl) (by kernel_rfl) rfl rfl rfl rfl rfl ?_; refine d_eff (k := 38) (n := 0) (m := 2) rfl (by kernel_rfl) rfl ?_; refine o_guard_no rfl rfl rfl rfl rfl (o_nil ?_); refine d_guard_no (i := 39) rfl (by kernel_rfl) (by kernel_rfl) (by kernel_rfl) rfl rfl rfl rfl rfl ?_; refine dv 40 rfl rfl (y_pick_t (v := .bool _) rfl rfl) ?_; refine d_nil (n := 0) (m := 2) (by kernel_rfl) rfl ?_; refine sf [(1, .pointer _), (6, .int _ _), (8, .pointer _), (43, .slice _ _ _), (44, .int _ _), (45, .int _ _), (89, .bool _)] (fun _f => ?_); refine s_then rfl ?_; refine s_seq (s_region ?_); refine ov (y_assign (v := .int _ _) rfl) (o_nil ?_); refine s_ret ?_; exact ⟨_, [], res1 rfl rfl, ⟨congrArg (Value.int .i64) (by unfold wErr; rw [if_neg (show ¬ ckErr w.ks ≠ 0 from fun hh => hh hck)]; rw [if_neg (by omega)]; rw [if_neg (fun hh => by have : goodI w.ks w.gs (lastI w.its u) (w.its.getD ((u : Nat) : Int).toNat default) := hh.2 u (by omega); unfold goodI at this; first | exact absurd this.2.2.2.2 (by assumption) | omega)]), rfl⟩, sub_picks [] rfl⟩
         ·refine dv 32 rfl rfl (y_pick_f (v := .bool _) rfl rfl) ?_; refine dv 33 rfl rfl (y_move (v := .bool _) rfl) ?_; refine d_val_g (i := 34) rfl (by kernel_rfl) (by kernel_rfl) (by kernel_rfl) rfl rfl rfl rfl (y_field0 (F := 0) Tryz.runUnderlying35 rfl Tryz.sizeOf23 rfl rfl) ?_; refine d_val_g (i := 35) rfl (by kernel_rfl) (by kernel_rfl) (by kernel_rfl) rfl rfl rfl rfl (y_load Tryz.isAgg23 rfl (cel_own 0 rfl rfl)) ?_; refine d_val_g (i := 36) rfl (by kernel_rfl) (by kernel_rfl) (by kernel_rfl) rfl rfl rfl rfl (y_field0 (F := 2) Tryz.runUnderlying54 rfl Tryz.sizeOf52 rfl rfl) ?_; refine d_val_g (i := 37) rfl (by kernel_rfl) (by kernel_rfl) (by kernel_rfl) rfl rfl rfl rfl (y_load Tryz.isAgg52 rfl (cel_own 1 rfl rfl)) ?_; refine d_eff (k := 38) (n := 0) (m := 2) rfl (by kernel_rfl) rfl ?_; refine o_guard_yes rfl rfl ?_; refine o_fn 0 (d := 87) rfl Tryz.call69 (heldW_c w.kA w.kn w.kc w.ks ⟨hwKl, hwKc, hwKb, hwK.here.down, (fun x hx => (hwKK x hx).sub MSub.ext)⟩ (w.its.getD ((u : Nat) : Int).toNat default).A (w.its.getD ((u : Nat) : Int).toNat default).n (w.its.getD ((u : Nat) : Int).toNat default).c (w.its.getD ((u : Nat) : Int).toNat default).cs (IOK.sub hii MSub.ext)) rfl ?_; rintro _ _ ⟨rfl, rfl⟩; refine o_nil ?_; refine d_split_g (i := 39) rfl (by kernel_rfl) (by kernel_rfl) (by kernel_rfl) rfl rfl rfl rfl (y_not rfl) (fun p25 => ?_) (fun p26 => ?_)
          ·refine dv 40 rfl rfl (y_pick_f (v := .bool _) rfl rfl) ?_; refine d_nil (n := 0) (m := 2) (by kernel_rfl) rfl ?_; refine sf [(1, .pointer _), (6, .int _ _), (8, .pointer _), (43, .slice _ _ _), (44, .int _ _), (45, .int _ _), (89, .bool _)] (fun _f => ?_); refine s_then rfl ?_; refine s_seq (s_region ?_); refine ov (y_assign (v := .int _ _) rfl) (o_nil ?_); refine s_ret ?_; exact ⟨_, [], res1 rfl rfl, ⟨congrArg (Value.int .i64) (by unfold wErr; rw [if_neg (show ¬ ckErr w.ks ≠ 0 from fun hh => hh hck)]; rw [if_neg (by omega)]; rw [if_neg (fun hh => by have : goodI w.ks w.gs (lastI w.its u) (w.its.getD ((u : Nat) : Int).toNat default) := hh.2 u (by omega); unfold goodI at this; first | exact absurd this.2.2.2.2 (by assumption) | omega)]), rfl⟩, sub_picks [] rfl⟩
          ·refine dv 40 rfl rfl (y_pick_f (v := .bool _) rfl rfl) ?_; refine d_nil (n := 0) (m := 2) (by kernel_rfl) rfl ?_; refine sf [(1, .pointer _), (6, .int _ _), (8, .pointer _), (43, .slice _ _ _), (44, .int _ _), (45, .int _ _), (89, .bool _)] (fun _f => ?_); refine s_else rfl ?_; refine s_skip ?_; refine s_region ?_; refine ov (y_field0 (F := 0) Tryz.runUnderlying54 rfl Tryz.sizeOf51 rfl rfl) ?_; refine ov (y_field0 (F := 0) Tryz.runUnderlying51 rfl Tryz.sizeOf3 rfl rfl) ?_; refine ov (y_load Tryz.isAgg3 rfl (cel_own 1 rfl rfl)) ?_; refine ov (y_assign (v := .int _ _) rfl) (o_nil ?_); refine s_region ?_; refine ov (y_add rfl rfl (by simp only [inK]; omega)) ?_; refine ov (y_move (v := .int _ _) rfl) (o_nil ?_); exact ⟨u + 1, (by first | omega | (dsimp only; omega)), ⟨by omega, all_next hall (show goodI w.ks w.gs (lastI w.its u) (w.its.getD ((u : Nat) : Int).toNat default) from ⟨by omega, by omega, by omega, by omega, by first | assumption | exact Decidable.not_not.1 (by assumption)⟩)⟩, ⟨rfl, (congrArg (Value.int .i64) (by omega)), hz3 trivial⟩, (sub_picks [0] rfl)⟩
     ·refine s_exit ?_; refine s_seq (s_region ?_); refine ov (y_assign (v := .int _ _) rfl) (o_nil ?_); refine s_ret ?_; exact ⟨_, [], res1 rfl rfl, ⟨congrArg (Value.int .i64) (by unfold wErr; rw [if_neg (show ¬ ckErr w.ks ≠ 0 from fun hh => hh hck)]; rw [if_neg (by omega)]; rw [if_pos ⟨fun j hj => hgall j (by omega), fun j hj => hall j (by omega)⟩]), rfl⟩, sub_picks [] rfl⟩

end Go.Proofs.YtlkajdcgdoijjaaGreatDoor.K
end
