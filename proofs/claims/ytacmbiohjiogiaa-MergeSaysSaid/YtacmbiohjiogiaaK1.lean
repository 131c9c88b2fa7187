/- The ground of this seat's walks: a symbolic state (slots, memory that is only read, groups of blocks of the call's own) and the rules of control over it. No condition. -/
import Derived.Tactics
import Derived.Deep.Quiet
import Derived.StillTail
import Derived.Laws.Rows
import Derived.Laws.Sem
import Derived.KernelRfl
namespace Go.Proofs.Ytacmbiohjiogiaa.K

/-- Slots. -/
abbrev Frm := Nat → Value
def upd (f : Frm) (d : Nat) (v : Value) : Frm := fun i => bif Nat.beq i d then v else f i
/-- Memory that is only read: which blocks hold what. -/
abbrev Mem := Nat → Obj → Prop
abbrev Ent := Nat × Obj
abbrev Grp := List Ent
def ext (V : Mem) (L : List Grp) : Mem := fun b o => V b o ∨ (b, o) ∈ L.flatten

structure SH (w0 : World) (V : Mem) (w : World) (L : List Grp) : Prop where
 os : w.os = w0.os
 tape : w.tape = w0.tape
 output : w.output = w0.output
 size : w0.heap.size ≤ w.heap.size
 imm : ∀ k o, V k o → w.heap[k]? = some o
 own : ∀ e ∈ L.flatten, w.heap[e.1]? = some e.2
 nodup : (L.flatten.map (·.1)).Nodup
 sep : ∀ e ∈ L.flatten, ∀ o, ¬ V e.1 o

structure Rep (N : Nat) (f : Frm) (a : Act) : Prop where
 size : a.tmps.size = N
 get : ∀ i, a.tmps.getD i undef = f i
 defers : a.defers = []

def evF (f : Frm) : Operand → Value
 | .tmp t => f t
 | .const v => v
 | .global g => .pointer (some ⟨g, 0, none⟩)
 | .func g => .func (.func g) #[] #[]

theorem Rep.eval {N : Nat} {f : Frm} {a : Act} (h : Rep N f a) : a.eval = evF f := by
 funext x
 cases x with
 | tmp t => exact h.get t
 | const v => rfl
 | global g => rfl
 | func g => rfl

theorem Rep.put {N : Nat} {f : Frm} {a : Act} (h : Rep N f a) {d : Nat} (hd : Nat.blt d N = true) (v : Value) : Rep N (upd f d v) (a.put (some d) v) := by
 have hd' : d < N := by simpa [Nat.blt_eq] using hd
 refine ⟨by simp [Act.put, h.size], fun i => ?_, h.defers⟩; have hg := h.get i; have hs := h.size; simp only [Act.put, upd]
 by_cases e : i = d
 ·subst e; have : Nat.beq i i = true := Nat.beq_refl i; rw [this]; simp [Array.getD_eq_getD_getElem?, hs, hd']
 ·have : Nat.beq i d = false := by
   cases hb : Nat.beq i d
   ·rfl
   ·exact absurd (Nat.eq_of_beq_eq_true hb) e
  rw [this]; simp only [cond_false]; rw [← hg]; simp only [Array.getD_eq_getD_getElem?, Array.getElem?_setIfInBounds]; rw [if_neg (fun e' => e e'.symm)]

theorem SH.lt {w0 w : World} {V : Mem} {L : List Grp} (h : SH w0 V w L) {b : Nat} {o : Obj} (hb : ext V L b o) : w.heap[b]? = some o := by
 rcases hb with hb | hb
 ·exact h.imm b o hb
 ·exact h.own (b, o) hb

/-- Fewer groups, or the same in another order. -/
theorem SH.sublist {w0 w : World} {V : Mem} {L L' : List Grp} (h : SH w0 V w L) (hs : L'.flatten.Sublist L.flatten) : SH w0 V w L' :=
 ⟨h.os, h.tape, h.output, h.size, h.imm, fun e he => h.own e (hs.subset he), (hs.map _).nodup h.nodup, fun e he => h.sep e (hs.subset he)⟩
theorem SH.front {w0 w : World} {V : Mem} {L L' : List Grp} (h : SH w0 V w L) (hs : ∃ T, L' ++ T = L) : SH w0 V w L' := by
 obtain ⟨T, rfl⟩ := hs; exact h.sublist (by rw [List.flatten_append]; exact List.sublist_append_left _ _)

/-- What holds of the groups 'L' holds of 'L''. -/
def Sub (L' L : List Grp) : Prop := ∀ w0 V w, SH w0 V w L → SH w0 V w L'
theorem sub_front {L L' : List Grp} (hs : ∃ T, L' ++ T = L) : Sub L' L := fun _ _ _ h => h.front hs

/-! ### judgements -/
def lift (N : Nat) (w0 : World) (V : Mem) (Q : Exit → Frm → List Grp → Prop) : Exit → Act → World → Prop :=
 fun e a w => ∃ f L, Rep N f a ∧ SH w0 V w L ∧ Q e f L
def wpS (P : Program) (N : Nat) (w0 : World) (V : Mem) (c : Code) (Q : Exit → Frm → List Grp → Prop) (f : Frm) (L : List Grp) : Prop :=
 ∀ a w, Rep N f a → SH w0 V w L → c.wp P (lift N w0 V Q) a w
def opsS (P : Program) (N : Nat) (w0 : World) (V : Mem) (ops : Array Oper) (Q : Exit → Frm → List Grp → Prop) (rest : List Oper) (f : Frm) (L : List Grp) : Prop :=
 ∀ a w, Rep N f a → SH w0 V w L → wpList P ops (lift N w0 V Q) rest a w
def CallS (P : Program) (fid : FuncId) (args : Array Value) (V : Mem) (L : List Grp) (R : Value → List Grp → Prop) : Prop :=
 ∀ w0 w, SH w0 V w L → Calls P fid args w fun e w' => ∃ v L', e = .returned v ∧ SH w0 V w' L' ∧ R v L'

def thenS (next : Frm → List Grp → Prop) (Q : Exit → Frm → List Grp → Prop) : Exit → Frm → List Grp → Prop
 | .normal, f, L => next f L
 | e, f, L => Q e f L
def blockS (id : Nat) (Q : Exit → Frm → List Grp → Prop) : Exit → Frm → List Grp → Prop
 | .exit id', f, L => if id' = id then Q .normal f L else Q (.exit id') f L
 | e, f, L => Q e f L

section
variable {P : Program} {N : Nat} {w0 : World} {V : Mem} {Q : Exit → Frm → List Grp → Prop} {f : Frm} {L : List Grp}

theorem wpS_mono {c : Code} {Q' : Exit → Frm → List Grp → Prop} (h : wpS P N w0 V c Q f L) (hq : ∀ e f L, Q e f L → Q' e f L) : wpS P N w0 V c Q' f L :=
 fun a w ha hw => wp_mono (h a w ha hw) fun _ _ _ ⟨f', L', h1, h2, h3⟩ => ⟨f', L', h1, h2, hq _ _ _ h3⟩

theorem s_skip (h : Q .normal f L) : wpS P N w0 V .skip Q f L := fun _ _ ha hw => wp_skip ⟨f, L, ha, hw, h⟩
theorem s_exit {id : Nat} (h : Q (.exit id) f L) : wpS P N w0 V (.exit id) Q f L := fun _ _ ha hw => wp_exit ⟨f, L, ha, hw, h⟩
theorem s_ret (h : Q .ret f L) : wpS P N w0 V .ret Q f L := fun _ _ ha hw => wp_ret ⟨f, L, ha, hw, h⟩

theorem s_seq {x y : Code} (h : wpS P N w0 V x (thenS (wpS P N w0 V y Q) Q) f L) : wpS P N w0 V (.seq x y) Q f L := by
 intro a w ha hw; refine wp_seq (wp_mono (h a w ha hw) ?_); rintro e a' w' ⟨f', L', h1, h2, h3⟩
 cases e with
 | normal => exact h3 a' w' h1 h2
 | exit id => exact ⟨f', L', h1, h2, h3⟩
 | goto l => exact ⟨f', L', h1, h2, h3⟩
 | ret => exact ⟨f', L', h1, h2, h3⟩
 | panic ch => exact ⟨f', L', h1, h2, h3⟩
 | outgrown => exact ⟨f', L', h1, h2, h3⟩

theorem s_if {c : Operand} {x y : Code} {p : Prop} [Decidable p] (hc : evF f c = .bool (decide p)) (ht : p → wpS P N w0 V x Q f L) (hf : ¬ p → wpS P N w0 V y Q f L) : wpS P N w0 V (.cond c x y) Q f L := by
 intro a w ha hw; have hc' : a.eval c = .bool (decide p) := by rw [ha.eval]; exact hc
 by_cases hp : p
 ·exact wp_cond (t := true) (by rw [hc']; simp [hp]) (ht hp a w ha hw)
 ·exact wp_cond (t := false) (by rw [hc']; simp [hp]) (hf hp a w ha hw)
theorem s_ifb {c : Operand} {x y : Code} {b : Bool} (hc : evF f c = .bool b) (ht : b = true → wpS P N w0 V x Q f L) (hf : b = false → wpS P N w0 V y Q f L) : wpS P N w0 V (.cond c x y) Q f L := by
 intro a w ha hw; have hc' : a.eval c = .bool b := by rw [ha.eval]; exact hc
 cases b with
 | true => exact wp_cond (t := true) hc' (ht rfl a w ha hw)
 | false => exact wp_cond (t := false) hc' (hf rfl a w ha hw)
theorem s_then {c : Operand} {x y : Code} (hc : evF f c = .bool true) (h : wpS P N w0 V x Q f L) : wpS P N w0 V (.cond c x y) Q f L :=
 s_ifb hc (fun _ => h) (fun e => by cases e)
theorem s_else {c : Operand} {x y : Code} (hc : evF f c = .bool false) (h : wpS P N w0 V y Q f L) : wpS P N w0 V (.cond c x y) Q f L :=
 s_ifb hc (fun e => by cases e) (fun _ => h)

theorem s_block {id : Nat} {c : Code} (h : wpS P N w0 V c (blockS id Q) f L) : wpS P N w0 V (.block id c) Q f L := by
 intro a w ha hw; refine wp_block (wp_mono (h a w ha hw) ?_); rintro e a' w' ⟨f', L', h1, h2, h3⟩
 cases e with
 | exit id' =>
  simp only [Exit.inBlock]; simp only [blockS] at h3
  by_cases hid : id' = id
  ·rw [if_pos hid] at h3 ⊢; exact ⟨f', L', h1, h2, h3⟩
  ·rw [if_neg hid] at h3 ⊢; exact ⟨f', L', h1, h2, h3⟩
 | normal => exact ⟨f', L', h1, h2, h3⟩
 | goto l => exact ⟨f', L', h1, h2, h3⟩
 | ret => exact ⟨f', L', h1, h2, h3⟩
 | panic ch => exact ⟨f', L', h1, h2, h3⟩
 | outgrown => exact ⟨f', L', h1, h2, h3⟩

/-- Slots written over a frame. -/
def pat (f : Frm) : List (Nat × Value) → Frm
 | [] => f
 | (d, v) :: l => upd (pat f l) d v
def Has (f : Frm) : List (Nat × Value) → Prop
 | [] => True
 | (d, v) :: l => f d = v ∧ Has f l
theorem Has.eq {f : Frm} : ∀ {l : List (Nat × Value)}, Has f l → f = pat f l
 | [], _ => rfl
 | (d, v) :: l, ⟨h1, h2⟩ => by
  have ih := h2.eq
  funext i
  simp only [pat, upd]
  cases hb : Nat.beq i d
  ·simp only [cond_false]; exact congrFun ih i
  ·have := Nat.eq_of_beq_eq_true hb; subst this; simp [h1]

/-- A loop: 'S g' the live slots, 'G g' the groups, 'I g' what is known, at the head of the round of state 'g'. -/
theorem s_loop {c : Code} {γ : Type} (S : γ → List (Nat × Value)) (G : γ → List Grp) (I : γ → Prop) (m : γ → Nat) (g0 : γ)
  (h0 : I g0) (hS : Has f (S g0)) (hG : Sub (G g0) L)
  (round : ∀ g f, I g → wpS P N w0 V c (thenS (fun f' L' => ∃ g', m g' < m g ∧ I g' ∧ Has f' (S g') ∧ Sub (G g') L') Q) (pat f (S g)) (G g)) : wpS P N w0 V (.loop c) Q f L := by
 intro a w ha hw; refine wp_loop_idx m (fun g a w => ∃ f, Rep N f a ∧ SH w0 V w (G g) ∧ I g ∧ Has f (S g)) g0 a w ⟨f, ha, hG _ _ _ hw, h0, hS⟩ ?_; rintro g a w ⟨f, ha, hw, hI, hs⟩; have hr := round g f hI; rw [← hs.eq] at hr; refine wp_mono (hr a w ha hw) ?_; rintro e a' w' ⟨f', L', h1, h2, h3⟩
 cases e with
 | normal => obtain ⟨g', hm, hI', hs', hG'⟩ := h3; exact ⟨g', hm, f', h1, hG' _ _ _ h2, hI', hs'⟩
 | exit id => exact ⟨f', L', h1, h2, h3⟩
 | goto l => exact ⟨f', L', h1, h2, h3⟩
 | ret => exact ⟨f', L', h1, h2, h3⟩
 | panic ch => exact ⟨f', L', h1, h2, h3⟩
 | outgrown => exact ⟨f', L', h1, h2, h3⟩
where
 wp_loop_idx {P : Program} {c : Code} {Q : Exit → Act → World → Prop} {γ : Type} (m : γ → Nat) (I : γ → Act → World → Prop) (g : γ) (a : Act) (w : World) (h : I g a w)
   (round : ∀ g a w, I g a w → c.wp P (Exit.then (fun a' w' => ∃ g', m g' < m g ∧ I g' a' w') Q) a w) : (Code.loop c).wp P Q a w := by
  intro b k cs; have key : ∀ n g a w, m g = n → I g a w →
    ∃ e a' w', Q e a' w' ∧ Arrives P (lone (b.at a (.code c :: .inLoop c :: k)) cs w) b k cs e a' w' := by
   intro n
   induction n using Nat.strongRecOn with
   | _ n ih =>
    intro g a w hn hI; obtain ⟨e, a₁, w₁, hq, harr⟩ := round g a w hI b (.inLoop c :: k) cs
    cases e with
    | normal =>
     obtain ⟨g', hlt, hI₁⟩ := hq; obtain ⟨e₂, a₂, w₂, hq₂, harr₂⟩ := ih (m g') (hn ▸ hlt) g' a₁ w₁ rfl hI₁; exact ⟨e₂, a₂, w₂, hq₂, .of_steps (Steps.trans harr (.one step_inLoop)) harr₂⟩
    | exit id => exact ⟨_, a₁, w₁, hq, .pass (x := .inLoop c) rfl (fun _ _ => .inl (by simp)) harr⟩
    | goto l => exact ⟨_, a₁, w₁, hq, .pass (x := .inLoop c) rfl (fun _ _ => .inl (by simp)) harr⟩
    | ret => exact ⟨_, a₁, w₁, hq, .pass (x := .inLoop c) rfl (fun _ _ => .inl (by simp)) harr⟩
    | panic ch => exact ⟨_, a₁, w₁, hq, .pass (x := .inLoop c) rfl (fun _ _ => .inl (by simp)) harr⟩
    | outgrown => exact ⟨_, a₁, w₁, hq, .pass (x := .inLoop c) rfl (fun _ _ => .inl (by simp)) harr⟩
  obtain ⟨e, a', w', hq, harr⟩ := key _ g a w rfl h; exact ⟨e, a', w', hq, .of_steps (.one step_loop) harr⟩

/-- Ways meet again: 'S g' the slots, 'G g' the groups, 'I g' what is known. -/
theorem s_join {x y : Code} {γ : Type} (S : γ → List (Nat × Value)) (G : γ → List Grp) (I : γ → Prop)
  (h : wpS P N w0 V x (thenS (fun f' L' => ∃ g, I g ∧ Has f' (S g) ∧ Sub (G g) L') Q) f L) (hy : ∀ g f, I g → wpS P N w0 V y Q (pat f (S g)) (G g)) : wpS P N w0 V (.seq x y) Q f L := by
 refine s_seq (wpS_mono h ?_); intro e f' L' h3
 cases e with
 | normal =>
  obtain ⟨g, hI, hs, hT⟩ := h3; intro a w ha hw; have := hy g f' hI; rw [← hs.eq] at this; exact this a w ha (hT _ _ _ hw)
 | exit id => exact h3
 | goto l => exact h3
 | ret => exact h3
 | panic ch => exact h3
 | outgrown => exact h3

/-! ### regions -/
theorem s_region {id : Nat} {l : List Oper} (h : opsS P N w0 V l.toArray Q l f L) : wpS P N w0 V (.region id l.toArray false) Q f L :=
 fun a w ha hw => wp_region_lit (h a w ha hw)

/-- Slots that are not named later may be forgotten, and groups dropped. -/
theorem s_sub {c : Code} (L' : List Grp) (hs : ∀ w, SH w0 V w L → SH w0 V w L') (h : wpS P N w0 V c Q f L') : wpS P N w0 V c Q f L :=
 fun a w ha hw => h a w ha (hs w hw)
theorem s_forget {c : Code} (S : List (Nat × Value)) (hS : Has f S) (h : ∀ f, wpS P N w0 V c Q (pat f S) L) : wpS P N w0 V c Q f L := by
 have := h f
 rwa [← hS.eq] at this

variable {ops : Array Oper} {rest : List Oper} {o : Oper}
theorem o_nil (h : Q .normal f L) : opsS P N w0 V ops Q [] f L := fun _ _ ha hw => wpList_nil ⟨f, L, ha, hw, h⟩

/-- An operation that yields 'v' and leaves the memory alone. -/
def Yld (P : Program) (f : Frm) (V : Mem) (L : List Grp) (o : Oper) (v : Value) : Prop :=
 ∀ w0 w, SH w0 V w L → (execOp (evF f) o).run P w = .ok (.value v) w

theorem o_val {d : Nat} {v : Value} (hg : o.guard = none) (hd : o.dst = some d) (hN : Nat.blt d N = true) (hy : Yld P f V L o v) (h : opsS P N w0 V ops Q rest (upd f d v) L) : opsS P N w0 V ops Q (o :: rest) f L := by
 intro a w ha hw; refine wpList_plain hg fun K hK => ?_; unfold Oper.wp; rw [ha.eval, hy w0 w hw]
 show K (a.put o.dst v) w
 rw [hd]; exact hK _ _ (h _ _ (ha.put hN v) hw)

/-- The value of an operation that a guard names. -/
def yieldF (ops : Array Oper) (f : Frm) (j : Nat) : Option Bool :=
 match (ops[j]?).bind (·.dst) with
 | some d => match f d with | .bool b => some b | _ => none
 | none => none
theorem yieldF_eq {N : Nat} {f : Frm} {a : Act} (ha : Rep N f a) {ops : Array Oper} {j : Nat} {b : Bool} (h : yieldF ops f j = some b) : yielded ops a.tmps j = some b := by
 unfold yieldF at h; unfold yielded
 cases hd : (ops[j]?).bind (·.dst) with
 | none => rw [hd] at h; cases h
 | some d =>
  rw [hd] at h; simp only at h; have hg := ha.get d; simp only [Option.bind_some]
  cases ht : a.tmps[d]? with
  | none =>
   have : f d = undef := by rw [← hg]; simp [Array.getD_eq_getD_getElem?, ht]
   rw [this] at h; simp [undef] at h
  | some v =>
   have : f d = v := by rw [← hg]; simp [Array.getD_eq_getD_getElem?, ht]
   rw [this] at h
   cases v <;> simp_all

theorem o_guard_yes {j : Nat} {b : Bool} (hg : o.guard = some (j, b)) (hy : yieldF ops f j = some b) (h : opsS P N w0 V ops Q ({ o with guard := none } :: rest) f L) : opsS P N w0 V ops Q (o :: rest) f L := by
 intro a w ha hw; have h' := h a w ha hw; have hy' := yieldF_eq ha hy; unfold wpList at h' ⊢; rw [if_pos (by simp [Region.wanted])] at h'; rw [if_pos (by simp [Region.wanted, hg, hy'])]; exact h'
theorem o_guard_no {j : Nat} {b b' : Bool} {d : Nat} (hg : o.guard = some (j, b)) (hy : yieldF ops f j = some b') (hne : (b' == b) = false) (hd : o.dst = some d) (hN : Nat.blt d N = true) (h : opsS P N w0 V ops Q rest (upd f d undef) L) : opsS P N w0 V ops Q (o :: rest) f L := by
 intro a w ha hw; have hy' := yieldF_eq ha hy; have hne' : b' ≠ b := by simpa using hne
 unfold wpList; rw [if_neg (by simp [Region.wanted, hg, hy', hne']), hd]; exact h _ _ (ha.put hN undef) hw
/-- The same where value and groups hang on the world. -/
theorem o_effE {d : Nat} (R : Value → List Grp → Prop) (hg : o.guard = none) (hd : o.dst = some d) (hN : Nat.blt d N = true)
  (hy : ∀ w, SH w0 V w L → ∃ v w' L', (execOp (evF f) o).run P w = .ok (.value v) w' ∧ SH w0 V w' L' ∧ R v L') (h : ∀ v L', R v L' → opsS P N w0 V ops Q rest (upd f d v) L') : opsS P N w0 V ops Q (o :: rest) f L := by
 intro a w ha hw; refine wpList_plain hg fun K hK => ?_; unfold Oper.wp; obtain ⟨v, w', L', hr, hs, hR⟩ := hy w hw; rw [ha.eval, hr]
 show K (a.put o.dst v) w'
 rw [hd]; exact hK _ _ (h v L' hR _ _ (ha.put hN v) hs)
theorem o_skip {L' : List Grp} (hg : o.guard = none) (hd : o.dst = none)
  (hy : ∀ w, SH w0 V w L → ∃ w', (execOp (evF f) o).run P w = .ok .skip w' ∧ SH w0 V w' L') (h : opsS P N w0 V ops Q rest f L') : opsS P N w0 V ops Q (o :: rest) f L := by
 intro a w ha hw; refine wpList_plain hg fun K hK => ?_; unfold Oper.wp; obtain ⟨w', hr, hs⟩ := hy w hw; rw [ha.eval, hr]
 show K (a.put o.dst undef) w'
 rw [hd]; exact hK _ _ (h _ _ ha hs)

/-- A call: the callee's number and arguments, and its contract. -/
theorem o_call {d fid : Nat} {args : Array Value} {R : Value → List Grp → Prop} (hg : o.guard = none) (hd : o.dst = some d) (hN : Nat.blt d N = true)
  (hr : ∀ w, (execOp (evF f) o).run P w = .ok (.enter fid args) w) (hc : CallS P fid args V L R) (h : ∀ v L', R v L' → opsS P N w0 V ops Q rest (upd f d v) L') : opsS P N w0 V ops Q (o :: rest) f L := by
 intro a w ha hw; refine wpList_plain hg fun K hK => ?_; unfold Oper.wp; rw [ha.eval, hr]; refine (hc w0 w hw).mono ?_; rintro e w' ⟨v, L', rfl, hs, hR⟩
 show K (a.put o.dst v) w'
 rw [hd]; exact hK _ _ (h v L' hR _ _ (ha.put hN v) hs)
theorem o_sub (L' : List Grp) (hs : ∀ w, SH w0 V w L → SH w0 V w L') (h : opsS P N w0 V ops Q rest f L') : opsS P N w0 V ops Q rest f L :=
 fun a w ha hw => h a w ha (hs w hw)

/-! ### regions that draw their order -/
def quietS (P : Program) (N : Nat) (w0 : World) (V : Mem) (L : List Grp) (ops : Array Oper) (Q : Exit → Frm → List Grp → Prop) (rest : List Oper) (f : Frm) : Prop :=
 ∀ a, Rep N f a → wpQuiet P ops (fun w => SH w0 V w L) (fun a' => ∀ w, SH w0 V w L → lift N w0 V Q .normal a' w) rest a

theorem SH.drawn {w0 w : World} {V : Mem} {L : List Grp} (h : SH w0 V w L) (n : Nat) : SH w0 V { w with drawn := n } L :=
 ⟨h.os, h.tape, h.output, h.size, h.imm, h.own, h.nodup, h.sep⟩

theorem s_quiet {id : Nat} {l : List Oper} (hm : P.follows .mixedOrders = true) (hB : Region.lexB .any l.toArray = true) (h : quietS P N w0 V L l.toArray Q l f) : wpS P N w0 V (.region id l.toArray true) Q f L := by
 intro a w ha hw; refine wp_region_quiet (C := fun w => SH w0 V w L) hm hB (hw.drawn _) ?_
 simpa using h a ha
theorem q_nil (h : Q .normal f L) : quietS P N w0 V L ops Q [] f := fun _ ha => wpQuiet_nil fun _ hw => ⟨f, L, ha, hw, h⟩
theorem q_val {d : Nat} {v : Value} (hg : o.guard = none) (hd : o.dst = some d) (hN : Nat.blt d N = true) (hy : Yld P f V L o v) (h : quietS P N w0 V L ops Q rest (upd f d v)) : quietS P N w0 V L ops Q (o :: rest) f := by
 intro a ha
 show (if Region.wanted o (yielded ops a.tmps) then _ else _)
 rw [if_pos (by simp [Region.wanted, hg])]; refine ⟨v, fun w hw => ?_, ?_⟩
 ·unfold Oper.quietAt; rw [ha.eval, hy w0 w hw]; exact ⟨rfl, rfl⟩
 ·rw [hd]; exact h _ (ha.put hN v)
theorem q_guard_yes {j : Nat} {b : Bool} (hg : o.guard = some (j, b)) (hy : yieldF ops f j = some b) (h : quietS P N w0 V L ops Q ({ o with guard := none } :: rest) f) : quietS P N w0 V L ops Q (o :: rest) f := by
 intro a ha; have h' := h a ha; have hy' := yieldF_eq ha hy; unfold wpQuiet at h' ⊢; rw [if_pos (by simp [Region.wanted])] at h'; rw [if_pos (by simp [Region.wanted, hg, hy'])]; exact h'
theorem q_guard_no {j : Nat} {b b' : Bool} {d : Nat} (hg : o.guard = some (j, b)) (hy : yieldF ops f j = some b') (hne : (b' == b) = false) (hd : o.dst = some d) (hN : Nat.blt d N = true) (h : quietS P N w0 V L ops Q rest (upd f d undef)) : quietS P N w0 V L ops Q (o :: rest) f := by
 intro a ha; have hy' := yieldF_eq ha hy; have hne' : b' ≠ b := by simpa using hne
 unfold wpQuiet; rw [if_neg (by simp [Region.wanted, hg, hy', hne']), hd]; exact h _ (ha.put hN undef)

/-- A region that draws: 'n' operations that leave memory alone, then a tail in one forced order. -/
def stillS (P : Program) (N : Nat) (w0 : World) (V : Mem) (L : List Grp) (ops : Array Oper) (K : Frm → Prop) (rest : List Oper) (f : Frm) : Prop :=
 ∀ a w, Rep N f a → SH w0 V w L → wpStill P ops w (fun a' => ∃ f', Rep N f' a' ∧ K f') rest a
theorem s_tail {id : Nat} {l : List Oper} (n : Nat) (hm : P.follows .mixedOrders = true) (hB : Region.lexTailB .any l.toArray n = true)
  (h : stillS P N w0 V L l.toArray (fun f' => opsS P N w0 V l.toArray Q (l.drop n) f' L) (l.take n) f) : wpS P N w0 V (.region id l.toArray true) Q f L := by
 intro a w ha hw; refine wp_region_still_tail n hm hB ?_; refine wpStill_mono ?_ (h a _ ha (hw.drawn (w.drawn + 1))); rintro a' ⟨f', ha', hK⟩; exact hK a' _ ha' (hw.drawn _)
where
 wpStill_mono {P : Program} {ops : Array Oper} {w : World} {Q Q' : Act → Prop} (hq : ∀ a, Q a → Q' a) : ∀ {l : List Oper} {a : Act}, wpStill P ops w Q l a → wpStill P ops w Q' l a
  | [], _, h => hq _ h
  | o :: l, a, h => by
   unfold wpStill at h ⊢
   split
   ·rename_i hw
    rw [if_pos hw] at h; exact Oper.still_mono (fun a h => wpStill_mono hq h) h
   ·rename_i hw
    rw [if_neg hw] at h; exact wpStill_mono hq h
theorem t_nil {K : Frm → Prop} (h : K f) : stillS P N w0 V L ops K [] f := fun _ _ ha _ => ⟨f, ha, h⟩
theorem t_val {K : Frm → Prop} {d : Nat} {v : Value} (hg : o.guard = none) (hd : o.dst = some d) (hN : Nat.blt d N = true) (hy : Yld P f V L o v) (h : stillS P N w0 V L ops K rest (upd f d v)) : stillS P N w0 V L ops K (o :: rest) f := by
 intro a w ha hw
 show (if Region.wanted o (yielded ops a.tmps) then _ else _)
 rw [if_pos (by simp [Region.wanted, hg])]; have hr := hy w0 w hw; unfold Oper.still; rw [ha.eval, hr]; refine ⟨rfl, ?_⟩; rw [hd]; exact h _ w (ha.put hN v) hw
end

/-! ### a function's contract -/
def entry (args : Array Value) : Frm := fun i => args.getD i undef
theorem entry_rep (args : Array Value) (n : Nat) (h : args.size ≤ n) : Rep n (entry args) { tmps := args ++ Array.replicate (n - args.size) undef, defers := [] } := by
 refine ⟨by simp; omega, fun i => ?_, rfl⟩; simp only [entry, Array.getD_eq_getD_getElem?, Array.getElem?_append, Array.getElem?_replicate]
 by_cases h1 : i < args.size
 ·simp [h1]
 ·rw [if_neg h1]; have : args[i]? = none := Array.getElem?_eq_none (by omega); rw [this]
  split <;> rfl
/-- What the results read as. -/
def Res (P : Program) (fn : Func) (V : Mem) (f : Frm) (L : List Grp) (v : Value) : Prop :=
 ∀ N a w w0, Rep N f a → SH w0 V w L → (results fn a.tmps).run P w = .ok v w
def endS (P : Program) (fn : Func) (V : Mem) (R : Value → List Grp → Prop) : Exit → Frm → List Grp → Prop
 | .normal, f, L | .ret, f, L => ∃ v L', Res P fn V f L v ∧ R v L' ∧ Sub L' L
 | _, _, _ => False
theorem callS {P : Program} {fid : FuncId} {fn : Func} {c : Code} {args : Array Value} {V : Mem} {L : List Grp} {R : Value → List Grp → Prop}
  (hf : P.funcs[fid]? = some fn) (hb : fn.body = some c) (hn : Nat.ble args.size fn.ntmps = true) (h : ∀ w0, wpS P fn.ntmps w0 V c (endS P fn V R) (entry args) L) : CallS P fid args V L R := by
 intro w0 w hw; refine calls_of_wp hf hb ?_; refine wp_mono (h w0 _ w (entry_rep args fn.ntmps (Nat.le_of_ble_eq_true hn)) hw) ?_; rintro e a w' ⟨f', L', h1, h2, h3⟩
 cases e with
 | normal => obtain ⟨v, L2, hv, hR, hT⟩ := h3; exact ⟨h1.defers, v, hv _ _ _ _ h1 h2, v, L2, rfl, hT _ _ _ h2, hR⟩
 | ret => obtain ⟨v, L2, hv, hR, hT⟩ := h3; exact ⟨h1.defers, v, hv _ _ _ _ h1 h2, v, L2, rfl, hT _ _ _ h2, hR⟩
 | exit id => exact h3.elim
 | goto l => exact h3.elim
 | panic ch => exact h3.elim
 | outgrown => exact h3.elim
theorem res1 {P : Program} {fn : Func} {V : Mem} {f : Frm} {L : List Grp} {t : Nat} {v : Value} (h : fn.results = #[.tmp t]) (hv : f t = v) : Res P fn V f L v := fun _ a _ _ ha _ => by rw [results_tmp h, ha.get, hv]
theorem res2 {P : Program} {fn : Func} {V : Mem} {f : Frm} {L : List Grp} {t u : Nat} {v v' : Value} (h : fn.results = #[.tmp t, .tmp u]) (hv : f t = v) (hv' : f u = v') : Res P fn V f L (.tuple #[v, v']) := fun _ a _ _ ha _ => by rw [results_tmp2 h, ha.get, ha.get, hv, hv']
theorem CallS.mono {P : Program} {fid : FuncId} {args : Array Value} {V : Mem} {L : List Grp} {R R' : Value → List Grp → Prop} (h : CallS P fid args V L R) (hr : ∀ v L', R v L' → R' v L') : CallS P fid args V L R' :=
 fun w0 w hw => (h w0 w hw).mono fun _ _ ⟨v, L', h1, h2, h3⟩ => ⟨v, L', h1, h2, hr v L' h3⟩
/-- What is not handed over is only read by the callee, and is there as it was behind the call. -/
theorem CallS.frame {P : Program} {fid : FuncId} {args : Array Value} {V : Mem} {Lin R : List Grp} {post : Value → List Grp → Prop} (h : CallS P fid args (ext V R) Lin post) {L : List Grp} (hL : L.flatten.Perm (Lin ++ R).flatten) :
  CallS P fid args V L (fun v L' => ∃ L1, post v L1 ∧ L' = L1 ++ R) := by
 intro w0 w hw; have hmem : ∀ e, e ∈ L.flatten ↔ e ∈ Lin.flatten ∨ e ∈ R.flatten := fun e => by rw [hL.mem_iff, List.flatten_append, List.mem_append]
 have hnd : ((Lin.flatten ++ R.flatten).map (·.1)).Nodup := by
  have := (hL.map (·.1)).nodup hw.nodup
  rwa [List.flatten_append] at this
 rw [List.map_append, List.nodup_append] at hnd; obtain ⟨hn1, hn2, hn3⟩ := hnd; refine (h w0 w ⟨hw.os, hw.tape, hw.output, hw.size, ?_, ?_, hn1, ?_⟩).mono ?_
 ·rintro k o (hk | hk)
  ·exact hw.imm k o hk
  ·exact hw.own (k, o) ((hmem _).2 (.inr hk))
 ·exact fun e he => hw.own e ((hmem _).2 (.inl he))
 ·rintro e he o (ho | ho)
  ·exact hw.sep e ((hmem _).2 (.inl he)) o ho
  ·exact hn3 e.1 (List.mem_map_of_mem he) e.1 (List.mem_map_of_mem (f := (·.1)) ho) rfl
 ·rintro e w' ⟨v, L1, rfl, hs, hp⟩; refine ⟨v, L1 ++ R, rfl, ⟨hs.os, hs.tape, hs.output, hs.size, fun k o ho => hs.imm k o (.inl ho), ?_, ?_, ?_⟩, L1, hp, rfl⟩
  ·intro e he; rw [List.flatten_append, List.mem_append] at he; rcases he with he | he
   ·exact hs.own e he
   ·exact hs.imm e.1 e.2 (.inr he)
  ·rw [List.flatten_append, List.map_append, List.nodup_append]; refine ⟨hs.nodup, hn2, ?_⟩; intro x hx y hy hxy; subst hxy; obtain ⟨e, he, rfl⟩ := List.mem_map.1 hx; obtain ⟨e', he', h'⟩ := List.mem_map.1 hy; exact hs.sep e he e'.2 (.inr (by rw [← h']; exact he'))
  ·intro e he o ho; rw [List.flatten_append, List.mem_append] at he; rcases he with he | he
   ·exact hs.sep e he o (.inl ho)
   ·exact hw.sep e ((hmem _).2 (.inr he)) o ho

end Go.Proofs.Ytacmbiohjiogiaa.K
