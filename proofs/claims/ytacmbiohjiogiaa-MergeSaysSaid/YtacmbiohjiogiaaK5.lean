/- A region that draws its order: operations that yield one value whatever the others do may be taken first; an operation that changes memory is taken when it alone can come up. No condition. -/
import Derived.Test.YtacmbiohjiogiaaK4
namespace Go.Proofs.Ytacmbiohjiogiaa.K
open Go.RowKit

section
variable {P : Program} {ops : Array Oper} {md : Region.Mode} {C : World → Prop} {Q : Exit → Act → World → Prop}

/-- In every world of the class the operation yields 'v'; or it is passed over. -/
def YV (P : Program) (ops : Array Oper) (C : World → Prop) (o : Oper) (v : Value) (a : Act) : Prop :=
 (Region.wanted o (yielded ops a.tmps) = true ∧ ∀ w, C w → (execOp a.eval o).run P w = .ok (.value v) w) ∨
 (Region.wanted o (yielded ops a.tmps) = false ∧ v = undef)
theorem YV.same {o : Oper} {v : Value} {a a' : Act} (hy : YV P ops C o v a) (he : execOp a'.eval o = execOp a.eval o)
  (hw : Region.wanted o (yielded ops a'.tmps) = Region.wanted o (yielded ops a.tmps)) : YV P ops C o v a' := by
 unfold YV at *; rw [he, hw]; exact hy
theorem YV.wpOp {i : Nat} {o : Oper} {v : Value} {a : Act} {w : World} (hi : ops[i]? = some o) (hy : YV P ops C o v a) (hw : C w) {K : Act → World → Prop} (h : K (a.put o.dst v) w) : wpOp P ops Q i K a w := by
 unfold Go.wpOp; simp only [hi]; rcases hy with ⟨hwa, hv⟩ | ⟨hwa, rfl⟩
 ·simp only [hwa, if_true, Oper.wp, hv w hw, Oper.upon]; exact .inl h
 ·simp only [hwa, Bool.false_eq_true, if_false]; exact h
/-- Whatever order is picked from here on, the class being kept. -/
def anyC (P : Program) (md : Region.Mode) (ops : Array Oper) (C : World → Prop) (Q : Exit → Act → World → Prop) : Nat → Array Bool → Act → World → Prop
 | 0, listed, a, w => C w ∧ Region.ready md ops listed = [] ∧ Q .normal a w
 | fuel + 1, listed, a, w =>
  C w ∧ (Region.ready md ops listed = [] → Q .normal a w) ∧
  ∀ i ∈ Region.ready md ops listed, wpOp P ops Q i (anyC P md ops C Q fuel (listed.setIfInBounds i true)) a w
theorem anyC.any : ∀ {fuel : Nat} {listed : Array Bool} {a : Act} {w : World}, anyC P md ops C Q fuel listed a w → wpAny P md ops Q fuel listed a w
 | 0, _, _, _, h => h.2
 | _ + 1, _, _, _, h => ⟨h.2.1, fun i hi => wpOp_mono (fun _ _ => anyC.any) (h.2.2 i hi)⟩

theorem wpOp_over {j : Nat} {oi oj : Oper} {v : Value} (hj : ops[j]? = some oj) (hap : oi.apart ops oj = true)
  (hsi : ∀ cs b, oi.op ≠ .select cs b) (hsj : ∀ cs b, oj.op ≠ .select cs b)
  (hQ : ∀ c a w, ¬ Q (.panic c) a w) {K : Act → World → Prop} {a : Act} {w : World}
  (hy : YV P ops C oi v a) (h : wpOp P ops Q j K (a.put oi.dst v) w) :
  wpOp P ops Q j (fun a' w' => YV P ops C oi v a' ∧ K (a'.put oi.dst v) w') a w := by
 obtain ⟨h1, h2, h3⟩ := Oper.apart_spec hap; have keep : ∀ (a : Act), YV P ops C oi v a → ∀ u, YV P ops C oi v (a.put oj.dst u) := fun a hy u =>
  hy.same (execOp_put oi hsi a oj.dst u h3) (wanted_put oi a oj.dst u h3)
 have keepD : ∀ d, YV P ops C oi v { a with defers := d :: a.defers } := fun d => hy.same rfl rfl; unfold wpOp at *; simp only [hj] at *; rw [wanted_put oj a oi.dst v h1] at h
 split
 ·rename_i hw
  simp only [hw, if_true] at h; rcases h with h | ⟨hasks, hlets⟩
  case inr => exact .inr ⟨by unfold Oper.asks at *; rw [execOp_put oj hsj a oi.dst v h1] at hasks; exact hasks, hlets⟩
  refine .inl ?_; unfold Oper.wp at *; rw [execOp_put oj hsj a oi.dst v h1] at h
  generalize (execOp a.eval oj).run P w = r at *
  cases r with
  | ok n w' =>
   cases n <;> simp only [Oper.upon] at h ⊢
   case value u => exact ⟨keep a hy u, by rw [← Act.put_comm a v u h2]; exact h⟩
   case skip => exact ⟨keep a hy _, by rw [← Act.put_comm a v undef h2]; exact h⟩
   case defer d =>
    refine ⟨keep _ (keepD d) _, ?_⟩; rw [← Act.put_comm _ v undef h2, ← Act.put_defers]; exact h
   case enter f args =>
    refine Calls.mono h fun e w'' he => ?_
    cases e with
    | returned u => exact ⟨keep a hy u, by rw [← Act.put_comm a v u h2]; exact he⟩
    | panicked c => exact (hQ _ _ _ he).elim
    | outgrown => exact he
   case row row args => exact Rows.mono h fun u w'' he => ⟨keep a hy u, by rw [← Act.put_comm a v u h2]; exact he⟩
  | halt x w' =>
   cases x <;> simp only [Oper.upon] at h ⊢
   case panic u => exact (hQ _ _ _ h).elim
 ·rename_i hw
  simp only [hw] at h; exact ⟨keep a hy _, by rw [← Act.put_comm a v undef h2]; exact h⟩

theorem anyC_first {i : Nat} {oi : Oper} {v : Value} (hi : ops[i]? = some oi) (hsel : ∀ (j : Nat) (o : Oper) cs b, ops[j]? = some o → o.op ≠ .select cs b)
  (hQ : ∀ c a w, ¬ Q (.panic c) a w) :
  ∀ (fuel : Nat) (listed : Array Bool) (a : Act) (w : World),
   (∀ j oj, ops[j]? = some oj → j ≠ i → listed.getD j true = false → (∀ e ∈ oj.after, Region.binds md e = true → e.on ≠ i) → oi.apart ops oj = true) →
   i ∈ Region.ready md ops listed → YV P ops C oi v a →
   anyC P md ops C Q fuel (listed.setIfInBounds i true) (a.put oi.dst v) w → anyC P md ops C Q (fuel + 1) listed a w := by
 intro fuel
 induction fuel with
 | zero =>
  intro listed a w _ hr hy H; refine ⟨H.1, fun h => (by rw [h] at hr; cases hr), fun j hj => ?_⟩
  by_cases hji : j = i
  ·subst hji; exact hy.wpOp hi H.1 H
  ·have := ready_mono hj hji; rw [H.2.1] at this
   cases this
 | succ fuel ih =>
  intro listed a w hfree hr hy H; refine ⟨H.1, fun h => (by rw [h] at hr; cases hr), fun j hj => ?_⟩
  by_cases hji : j = i
  ·subst hji; exact hy.wpOp hi H.1 H
  ·have h1 := H.2.2 j (ready_mono hj hji); obtain ⟨hjun, oj, hoj, hall⟩ := mem_ready.1 hj; have hnot : ∀ e ∈ oj.after, Region.binds md e = true → e.on ≠ i := fun e he hb heq => by
    have h1 := hall e he hb; have h0 := (mem_ready.1 hr).1; rw [heq] at h1; rcases Nat.lt_or_ge i listed.size with h' | h'
    ·simp [h'] at h0 h1; rw [h0] at h1; cases h1
    ·simp [Array.getElem?_eq_none h'] at h1
   have h2 := wpOp_over hoj (hfree j oj hoj hji hjun hnot) (fun cs b => hsel i oi cs b hi) (fun cs b => hsel j oj cs b hoj) hQ hy h1; have hfree' : ∀ k ok, ops[k]? = some ok → k ≠ i → (listed.setIfInBounds j true).getD k true = false →
     (∀ e ∈ ok.after, Region.binds md e = true → e.on ≠ i) → oi.apart ops ok = true := fun k ok hk hki hun hno => by
    refine hfree k ok hk hki ?_ hno
    by_cases hjk : j = k
    ·subst hjk; exact hjun
    ·rw [getD_set_ne true hjk] at hun; exact hun
   refine wpOp_mono (fun a' w' h3 => ih (listed.setIfInBounds j true) a' w' hfree' (ready_mono hr (Ne.symm hji)) h3.1 ?_) h2; rw [Array.setIfInBounds_comm _ _ hji]; exact h3.2
end

section
variable {P : Program} {N : Nat} {w0 : World} {V : Mem} {L0 : List Grp} {Q : Exit → Frm → List Grp → Prop} {f : Frm} {L : List Grp} {ops : Array Oper} {o : Oper} {d : Nat} {v : Value}

/-- Only the way that goes on counts. -/
def onN (Q : Act → World → Prop) : Exit → Act → World → Prop
 | .normal, a, w => Q a w
 | _, _, _ => False
theorem onN_out (Q : Act → World → Prop) : ¬ LetsOut (onN Q) := fun ⟨_, _, h⟩ => h
def drawS (P : Program) (N : Nat) (w0 : World) (V : Mem) (L0 : List Grp) (ops : Array Oper) (Q : Exit → Frm → List Grp → Prop) (fuel : Nat) (listed : List Bool) (f : Frm) (L : List Grp) : Prop :=
 ∀ a w, Rep N f a → SH w0 V w L → anyC P .any ops (fun w => SH w0 V w L0) (onN fun a w => lift N w0 V Q .normal a w) fuel listed.toArray a w
/-- The part of the groups that only is read in the region. -/
theorem s_draw {id : Nat} {l : List Oper} (L0 : List Grp) (hm : P.follows .mixedOrders = true) (h : drawS P N w0 V L0 l.toArray Q l.length (List.replicate l.length false) f L) : wpS P N w0 V (.region id l.toArray true) Q f L := by
 intro a w ha hw; refine wp_mono (wp_region_any (Q := onN fun a w => lift N w0 V Q .normal a w) hm ?_) ?_
 ·have := (h a _ ha (hw.drawn (w.drawn + 1))).any
  simpa [List.toArray_replicate] using this
 ·intro e a w h
  cases e with
  | normal => exact h
  | _ => exact h.elim
theorem d_nil {fuel n m : Nat} {listed : List Bool} (hr : Region.ready .any ops listed.toArray = []) (hs : (L.drop n).take m = L0) (h : Q .normal f L) : drawS P N w0 V L0 ops Q fuel listed f L := by
 intro a w ha hw; have hc : SH w0 V w L0 := hw.sublist (sub_flatten (hs ▸ (List.take_sublist _ _).trans (List.drop_sublist _ _)))
 cases fuel with
 | zero => exact ⟨hc, hr, f, L, ha, hw, h⟩
 | succ n => exact ⟨hc, fun _ => ⟨f, L, ha, hw, h⟩, by rw [hr]; simp⟩
theorem d_val {fuel i : Nat} {listed : List Bool} (hi : ops[i]? = some o) (hs : Region.noSelect ops = true) (hr : (Region.ready .any ops listed.toArray).contains i = true) (hf : Region.free .any ops listed.toArray i = true) (hg : o.guard = none) (hd : o.dst = some d) (hN : Nat.blt d N = true)
  (hy : Yld P f V L0 o v) (h : drawS P N w0 V L0 ops Q fuel (listed.set i true) (upd f d v) L) : drawS P N w0 V L0 ops Q (fuel + 1) listed f L := by
 intro a w ha hw; refine anyC_first (v := v) hi (Region.noSelect_spec hs) (fun _ _ _ h => h) fuel listed.toArray a w (Region.free_spec hi hf) (by simpa using hr) (.inl ⟨by simp [Region.wanted, hg], fun w hc => by rw [ha.eval]; exact hy w0 w hc⟩) ?_; have := h _ w (hd ▸ ha.put hN v) hw
 simpa using this
theorem d_guard_no {fuel i j : Nat} {b b' : Bool} {listed : List Bool} (hi : ops[i]? = some o) (hs : Region.noSelect ops = true) (hr : (Region.ready .any ops listed.toArray).contains i = true) (hf : Region.free .any ops listed.toArray i = true) (hg : o.guard = some (j, b)) (hy : yieldF ops f j = some b') (hne : (b' == b) = false) (hd : o.dst = some d) (hN : Nat.blt d N = true)
  (h : drawS P N w0 V L0 ops Q fuel (listed.set i true) (upd f d undef) L) : drawS P N w0 V L0 ops Q (fuel + 1) listed f L := by
 intro a w ha hw; have hy' := yieldF_eq ha hy; have hne' : b' ≠ b := by simpa using hne
 refine anyC_first (v := undef) hi (Region.noSelect_spec hs) (fun _ _ _ h => h) fuel listed.toArray a w (Region.free_spec hi hf) (by simpa using hr) (.inr ⟨by simp [Region.wanted, hg, hy', hne'], rfl⟩) ?_; have := h _ w (hd ▸ ha.put hN undef) hw
 simpa using this
theorem d_val_g {fuel i j : Nat} {b : Bool} {listed : List Bool} (hi : ops[i]? = some o) (hs : Region.noSelect ops = true) (hr : (Region.ready .any ops listed.toArray).contains i = true) (hf : Region.free .any ops listed.toArray i = true) (hg : o.guard = some (j, b)) (hyg : yieldF ops f j = some b) (hd : o.dst = some d) (hN : Nat.blt d N = true)
  (hy : Yld P f V L0 o v) (h : drawS P N w0 V L0 ops Q fuel (listed.set i true) (upd f d v) L) : drawS P N w0 V L0 ops Q (fuel + 1) listed f L := by
 intro a w ha hw; have hy' := yieldF_eq ha hyg; refine anyC_first (v := v) hi (Region.noSelect_spec hs) (fun _ _ _ h => h) fuel listed.toArray a w (Region.free_spec hi hf) (by simpa using hr) (.inl ⟨by simp [Region.wanted, hg, hy'], fun w hc => by rw [ha.eval]; exact hy w0 w hc⟩) ?_; have := h _ w (hd ▸ ha.put hN v) hw
 simpa using this
theorem d_split {fuel i : Nat} {listed : List Bool} {p : Prop} [Decidable p] (hi : ops[i]? = some o) (hs : Region.noSelect ops = true) (hr : (Region.ready .any ops listed.toArray).contains i = true) (hf : Region.free .any ops listed.toArray i = true) (hg : o.guard = none) (hd : o.dst = some d) (hN : Nat.blt d N = true)
  (hy : Yld P f V L0 o (.bool (decide p))) (ht : p → drawS P N w0 V L0 ops Q fuel (listed.set i true) (upd f d (.bool true)) L) (hff : ¬ p → drawS P N w0 V L0 ops Q fuel (listed.set i true) (upd f d (.bool false)) L) : drawS P N w0 V L0 ops Q (fuel + 1) listed f L := by
 by_cases hp : p
 ·exact d_val hi hs hr hf hg hd hN (hy.tt hp) (ht hp)
 ·exact d_val hi hs hr hf hg hd hN (hy.ff hp) (hff hp)
theorem d_split_g {fuel i j : Nat} {b : Bool} {listed : List Bool} {p : Prop} [Decidable p] (hi : ops[i]? = some o) (hs : Region.noSelect ops = true) (hr : (Region.ready .any ops listed.toArray).contains i = true) (hf : Region.free .any ops listed.toArray i = true) (hg : o.guard = some (j, b)) (hyg : yieldF ops f j = some b) (hd : o.dst = some d) (hN : Nat.blt d N = true)
  (hy : Yld P f V L0 o (.bool (decide p))) (ht : p → drawS P N w0 V L0 ops Q fuel (listed.set i true) (upd f d (.bool true)) L) (hff : ¬ p → drawS P N w0 V L0 ops Q fuel (listed.set i true) (upd f d (.bool false)) L) : drawS P N w0 V L0 ops Q (fuel + 1) listed f L := by
 by_cases hp : p
 ·exact d_val_g hi hs hr hf hg hyg hd hN (hy.tt hp) (ht hp)
 ·exact d_val_g hi hs hr hf hg hyg hd hN (hy.ff hp) (hff hp)
theorem s_drawn {id : Nat} {l : List Oper} (n : Nat) (hm : P.follows .mixedOrders = true) (h : drawS P N w0 V (L.drop n) l.toArray Q l.length (List.replicate l.length false) f L) : wpS P N w0 V (.region id l.toArray true) Q f L :=
 s_draw (L.drop n) hm h
theorem s_pull {c : Code} (j : Nat) (h : wpS P N w0 V c Q f (pull j L)) : wpS P N w0 V c Q f L :=
 s_sub _ (fun _ hw => hw.perm (pull_perm j L)) h
/-- What follows an operation that changes memory. -/
def onlyS (K : Frm → List Grp → Prop) : Exit → Frm → List Grp → Prop
 | .normal, f, L => K f L
 | _, _, _ => False
theorem d_eff {fuel k n m : Nat} {listed : List Bool} (hk : ops[k]? = some o) (hr : Region.ready .any ops listed.toArray = [k]) (hs : (L.drop n).take m = L0)
  (h : opsS P N w0 V ops (onlyS fun f' L' => drawS P N w0 V L0 ops Q fuel (listed.set k true) f' L') [o] f L) : drawS P N w0 V L0 ops Q (fuel + 1) listed f L := by
 intro a w ha hw; have hc : SH w0 V w L0 := hw.sublist (sub_flatten (hs ▸ (List.take_sublist _ _).trans (List.drop_sublist _ _))); refine ⟨hc, ?_, ?_⟩
 ·intro h0; rw [hr] at h0; cases h0
 intro i hi; rw [hr] at hi; have hik : i = k := by simpa using hi
 subst hik; have h1 := h a w ha hw; have key : ∀ (K : Act → World → Prop), (∀ a' w', lift N w0 V (onlyS fun f' L' => drawS P N w0 V L0 ops Q fuel (listed.set i true) f' L') .normal a' w' → K a' w') → wpOp P ops (onN fun a w => lift N w0 V Q .normal a w) i K a w := by
  intro K hK; unfold wpOp; simp only [hk]; unfold wpList at h1
  split at h1
  ·rename_i hwa
   rw [if_pos hwa]; rcases h1 with h1 | ⟨_, a', w', f', L', _, _, hF⟩
   ·refine .inl ?_; unfold Oper.wp at h1 ⊢
    generalize (execOp a.eval o).run P w = r at h1
    cases r with
    | ok nx w' =>
     cases nx <;> simp only [Oper.upon] at h1 ⊢
     case value u => exact hK _ _ h1
     case skip => exact hK _ _ h1
     case defer dd => exact hK _ _ h1
     case enter ff args =>
      refine Calls.mono h1 fun e w'' he => ?_
      cases e with
      | returned u => exact hK _ _ he
      | panicked c => obtain ⟨f', L', _, _, hF⟩ := he; exact hF.elim
      | outgrown => obtain ⟨a', w', f', L', _, _, hF⟩ := he; exact hF.elim
     case row row args => exact Rows.mono h1 fun u w'' he => hK _ _ he
    | halt x w' =>
     cases x <;> simp only [Oper.upon] at h1 ⊢
     case panic u => obtain ⟨f', L', _, _, hF⟩ := h1; exact hF.elim
   ·exact hF.elim
  ·rename_i hwa
   rw [if_neg hwa]; exact hK _ _ h1
 refine key _ ?_; rintro a' w' ⟨f', L', h1, h2, h3⟩; have := h3 a' w' h1 h2
 simpa using this
end
end Go.Proofs.Ytacmbiohjiogiaa.K
