/- Regions that draw: loads that every write waits for are taken where they stand. No condition. -/
import Derived.Test.YtacmbiohjiogiaaK10
import Derived.Laws.Pointers
namespace Go.Proofs.Ytacmbiohjiogiaa.K
open Go.RowKit
section
variable {P : Program} {ops : Array Oper} {C : World → Prop} {Q : Exit → Act → World → Prop}
/-- What is not listed, and neither 'i' nor of 'S', waits for something of the same sort or for 'i'. -/
def nowB (ops : Array Oper) (listed : List Bool) (i : Nat) (S : List Nat) : Bool :=
 ((List.range ops.size).all fun j => listed.getD j true || (j == i || (S.contains j || (match ops[j]? with
  | some oj => oj.after.toList.any fun e => Region.binds .any e && (!(listed.getD e.on true) && !(S.contains e.on))
  | none => true)))) &&
 ((i :: S).all (fun k => S.all fun j => j == k || (match ops[k]?, ops[j]? with | some ok, some oj => ok.apart ops oj | _, _ => false)) && !(S.contains i))
theorem wpOp_inv {j : Nat} {oj : Oper} {v : Value} {a : Act} {w : World} (hj : ops[j]? = some oj) (hQ : ¬ LetsOut Q) (hy : YV P ops (fun w' => w' = w) oj v a) {K : Act → World → Prop} (h : wpOp P ops Q j K a w) : K (a.put oj.dst v) w := by
 unfold Go.wpOp at h; simp only [hj] at h; rcases hy with ⟨hwa, hv⟩ | ⟨hwa, rfl⟩
 ·simp only [hwa, if_true, Oper.wp, hv w rfl, Oper.upon] at h; rcases h with h | ⟨_, h⟩
  ·exact h
  ·exact absurd h hQ
 ·simp only [hwa, Bool.false_eq_true, if_false] at h; exact h
theorem anyC_now {i : Nat} {oi : Oper} {v : Value} {w : World} (hi : ops[i]? = some oi) (hsel : ∀ (j : Nat) (o : Oper) cs b, ops[j]? = some o → o.op ≠ .select cs b) (hQ : ¬ LetsOut Q)
  (S : List Nat) (g : Nat → Oper) (u : Nat → Value) (hg : ∀ j ∈ S, ops[j]? = some (g j)) (hiS : i ∉ S) (hap : ∀ j ∈ S, oi.apart ops (g j) = true) (hap' : ∀ k ∈ S, ∀ j ∈ S, j ≠ k → (g k).apart ops (g j) = true) :
  ∀ (fuel : Nat) (listed : Array Bool) (a : Act),
   (∀ j oj, ops[j]? = some oj → listed.getD j true = false → j ≠ i → j ∉ S → ∃ e ∈ oj.after, Region.binds .any e = true ∧ listed.getD e.on true = false ∧ e.on ∉ S) →
   i ∈ Region.ready .any ops listed → YV P ops (fun w' => w' = w) oi v a → (∀ j ∈ S, listed.getD j true = false → YV P ops (fun w' => w' = w) (g j) (u j) a) →
   anyC P .any ops C Q fuel (listed.setIfInBounds i true) (a.put oi.dst v) w → anyC P .any ops C Q (fuel + 1) listed a w := by
 intro fuel; have main : ∀ (listed : Array Bool), (∀ j oj, ops[j]? = some oj → listed.getD j true = false → j ≠ i → j ∉ S → ∃ e ∈ oj.after, Region.binds .any e = true ∧ listed.getD e.on true = false ∧ e.on ∉ S) →
   ∀ j ∈ Region.ready .any ops listed, j ≠ i → j ∈ S := by
  intro listed hblk j hj hji
  apply Classical.byContradiction
  intro hjS; obtain ⟨hun, oj, hoj, hall⟩ := mem_ready.1 hj; obtain ⟨e, he, hb, hu, _⟩ := hblk j oj hoj hun hji hjS; have h1 := hall e he hb; rcases Nat.lt_or_ge e.on listed.size with h' | h'
  ·simp [h'] at h1 hu; rw [hu] at h1; cases h1
  ·simp [Array.getElem?_eq_none h'] at h1
 induction fuel with
 | zero =>
  intro listed a hblk hr hy hS H; refine ⟨H.1, fun h => (by rw [h] at hr; cases hr), fun j hj => ?_⟩
  by_cases hji : j = i
  ·subst hji; exact hy.wpOp hi rfl H
  ·have := ready_mono hj hji; rw [H.2.1] at this
   cases this
 | succ fuel ih =>
  intro listed a hblk hr hy hS H; refine ⟨H.1, fun h => (by rw [h] at hr; cases hr), fun j hj => ?_⟩
  by_cases hji : j = i
  ·subst hji; exact hy.wpOp hi rfl H
  ·have hjS := main listed hblk j hj hji; have hun := (mem_ready.1 hj).1; have hyj := hS j hjS hun; have hoj := hg j hjS; obtain ⟨h1, h2, h3⟩ := Oper.apart_spec (hap j hjS); have hyj' : YV P ops (fun w' => w' = w) (g j) (u j) (a.put oi.dst v) := hyj.same (execOp_put _ (fun cs b => hsel j _ cs b hoj) a oi.dst v h1) (wanted_put _ a oi.dst v h1); have H2 := wpOp_inv hoj hQ hyj' (H.2.2 j (ready_mono hj hji)); refine hyj.wpOp hoj rfl (ih (listed.setIfInBounds j true) (a.put (g j).dst (u j)) ?_ (ready_mono hr (Ne.symm hji)) ?_ ?_ ?_)
   ·intro k ok hk hku hki hkS; have hjk : j ≠ k := fun e => hkS (e ▸ hjS); rw [getD_set_ne true hjk] at hku; obtain ⟨e, he, hb, heu, heS⟩ := hblk k ok hk hku hki hkS; have hje : j ≠ e.on := fun e' => heS (by rw [← e']; exact hjS); exact ⟨e, he, hb, by rw [getD_set_ne true hje]; exact heu, heS⟩
   ·exact hy.same (execOp_put _ (fun cs b => hsel i _ cs b hi) a (g j).dst (u j) h3) (wanted_put _ a (g j).dst (u j) h3)
   ·intro k hk hku
    by_cases hjk : j = k
    ·subst hjk; rcases Nat.lt_or_ge j listed.size with h' | h'
     ·simp [h'] at hku
     ·simp [Array.getElem?_eq_none h'] at hun
    ·rw [getD_set_ne true hjk] at hku; obtain ⟨_, _, h6⟩ := Oper.apart_spec (hap' k hk j hjS hjk); exact (hS k hk hku).same (execOp_put _ (fun cs b => hsel k _ cs b (hg k hk)) a (g j).dst (u j) h6) (wanted_put _ a (g j).dst (u j) h6)
   ·rw [Array.setIfInBounds_comm _ _ hji, ← Act.put_comm a v (u j) h2]; exact H2
end
section
variable {P : Program} {N : Nat} {w0 : World} {V : Mem} {L0 : List Grp} {Q : Exit → Frm → List Grp → Prop} {f : Frm} {L : List Grp} {ops : Array Oper} {o : Oper} {d : Nat} {v : Value}
def SYld (P : Program) (f : Frm) (V : Mem) (L : List Grp) (ops : Array Oper) : List (Nat × Oper × Value) → Prop
 | [] => True
 | s :: r => (ops[s.1]? = some s.2.1 ∧ s.2.1.guard = none ∧ Yld P f V L s.2.1 s.2.2) ∧ SYld P f V L ops r
theorem SYld.mem : ∀ {S : List (Nat × Oper × Value)}, SYld P f V L ops S → ∀ s ∈ S, ops[s.1]? = some s.2.1 ∧ s.2.1.guard = none ∧ Yld P f V L s.2.1 s.2.2
 | [], _, s, hs => by cases hs
 | t :: r, h, s, hs => by
  rcases List.mem_cons.1 hs with rfl | hs
  ·exact h.1
  ·exact h.2.mem s hs
variable {x y : Operand} {ty yt : TypeId} {ps : String} {af : Array Edge} {g : Option (Nat × Bool)}
theorem d_now {fuel i : Nat} {listed : List Bool} (S : List (Nat × Oper × Value)) (hi : ops[i]? = some o) (hs : Region.noSelect ops = true) (hr : (Region.ready .any ops listed.toArray).contains i = true) (hB : nowB ops listed i (S.map (·.1)) = true) (hg : o.guard = none) (hd : o.dst = some d) (hN : Nat.blt d N = true)
  (hy : Yld P f V L o v) (hS : SYld P f V L ops S) (h : drawS P N w0 V L0 ops Q fuel (listed.set i true) (upd f d v) L) : drawS P N w0 V L0 ops Q (fuel + 1) listed f L := by
 intro a w ha hw; simp only [nowB, Bool.and_eq_true, List.all_eq_true, List.mem_range, Bool.or_eq_true, beq_iff_eq, Bool.not_eq_true'] at hB; obtain ⟨hB1, hB2, hB3⟩ := hB; have hsel := Region.noSelect_spec hs; have hfind : ∀ j ∈ S.map (·.1), ∃ s ∈ S, s.1 = j := fun j hj => by obtain ⟨s, h1, h2⟩ := List.mem_map.1 hj; exact ⟨s, h1, h2⟩
 let look : Nat → Nat × Oper × Value := fun j => (S.find? (fun s => s.1 == j)).getD (j, o, v)
 have hlook : ∀ j ∈ S.map (·.1), look j ∈ S ∧ (look j).1 = j := fun j hj => by
  obtain ⟨s, h1, h2⟩ := hfind j hj
  cases hf : S.find? (fun s => s.1 == j) with
  | none =>
   rw [List.find?_eq_none] at hf; exact absurd (by simpa using h2) (hf s h1)
  | some t =>
   simp only [look, hf, Option.getD_some]; exact ⟨List.mem_of_find?_eq_some hf, by have := List.find?_some hf; simpa using this⟩
 have hops : ∀ j ∈ S.map (·.1), ops[j]? = some (look j).2.1 := fun j hj => by
  obtain ⟨h1, h2⟩ := hlook j hj; have := (hS.mem _ h1).1
  rwa [h2] at this
 have hiS : i ∉ S.map (·.1) := fun hh => by
  have : (S.map (·.1)).contains i = true := by simpa using hh
  rw [hB3] at this; cases this
 have hap : ∀ k ∈ i :: S.map (·.1), ∀ j ∈ S.map (·.1), j ≠ k → ∀ ok, ops[k]? = some ok → ok.apart ops (look j).2.1 = true := fun k hk j hj hne ok hok => by
  rcases hB2 k hk j hj with e | e
  ·exact absurd e hne
  ·rw [hok, hops j hj] at e; exact e
 refine anyC_now (v := v) hi hsel (onN_out _) (S.map (·.1)) (fun j => (look j).2.1) (fun j => (look j).2.2) hops hiS (fun j hj => hap i (by simp) j hj (fun e => hiS (e ▸ hj)) o hi) (fun k hk j hj hne => hap k (List.mem_cons_of_mem _ hk) j hj hne _ (hops k hk)) fuel listed.toArray a ?_ (by simpa using hr)
  (.inl ⟨by simp [Region.wanted, hg], fun w' hc => by subst hc; rw [ha.eval]; exact hy w0 _ hw⟩) ?_ ?_
 ·intro j oj hoj hun hji hjS; have hlt : j < ops.size := (Array.getElem?_eq_some_iff.1 hoj).1; rcases hB1 j hlt with e | e | e | e
  ·simp only [List.getD_eq_getElem?_getD] at e; simp only [Array.getD_eq_getD_getElem?, List.getElem?_toArray] at hun; rw [e] at hun; cases hun
  ·exact absurd e hji
  ·exact absurd (by simpa using e) hjS
  ·rw [hoj] at e; simp only [List.any_eq_true, Bool.and_eq_true, Bool.not_eq_true'] at e; obtain ⟨x, hx, hb, hu, hxS⟩ := e; refine ⟨x, by simpa using hx, hb, ?_, ?_⟩
   ·simp only [List.getD_eq_getElem?_getD] at hu; simp only [Array.getD_eq_getD_getElem?, List.getElem?_toArray]; exact hu
   ·intro hh; have : (S.map (·.1)).contains x.on = true := by simpa using hh
    rw [hxS] at this; cases this
 ·intro j hj _; obtain ⟨h1, h2⟩ := hlook j hj; obtain ⟨_, h4, h5⟩ := hS.mem _ h1; exact .inl ⟨by simp [Region.wanted, h4], fun w' hc => by subst hc; rw [ha.eval]; exact h5 w0 _ hw⟩
 ·have := h _ w (hd ▸ ha.put hN v) hw
  simpa using this
end
end Go.Proofs.Ytacmbiohjiogiaa.K
