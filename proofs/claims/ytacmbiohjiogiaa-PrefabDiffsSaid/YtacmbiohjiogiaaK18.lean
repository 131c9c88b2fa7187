/- Regions that draw their order, with groups that stay as they are till one operation. No condition. -/
import Derived.Test.YtacmbiohjiogiaaK17
set_option linter.unusedVariables false
namespace Go.Proofs.Ytacmbiohjiogiaa.K
open Go.RowKit
section
variable {P : Program} {ops : Array Oper} {C : Array Bool → World → Prop} {Q : Exit → Act → World → Prop}
def anyS (P : Program) (ops : Array Oper) (C : Array Bool → World → Prop) (Q : Exit → Act → World → Prop) : Nat → Array Bool → Act → World → Prop
  | 0, listed, a, w => C listed w ∧ Region.ready .any ops listed = [] ∧ Q .normal a w
  | fuel + 1, listed, a, w =>
    C listed w ∧ (Region.ready .any ops listed = [] → Q .normal a w) ∧
    ∀ i ∈ Region.ready .any ops listed, wpOp P ops Q i (anyS P ops C Q fuel (listed.setIfInBounds i true)) a w
theorem anyS.any : ∀ {fuel : Nat} {listed : Array Bool} {a : Act} {w : World}, anyS P ops C Q fuel listed a w → wpAny P .any ops Q fuel listed a w
  | 0, _, _, _, h => h.2
  | _ + 1, _, _, _, h => ⟨h.2.1, fun i hi => wpOp_mono (fun _ _ => anyS.any) (h.2.2 i hi)⟩
theorem anyS.cls {fuel : Nat} {listed : Array Bool} {a : Act} {w : World} (h : anyS P ops C Q fuel listed a w) : C listed w := by
  cases fuel <;> exact h.1
theorem anyS_first {i : Nat} {oi : Oper} {v : Value} {D : World → Prop} {inv : Array Bool → Prop} (hi : ops[i]? = some oi) (hsel : ∀ (j : Nat) (o : Oper) cs b, ops[j]? = some o → o.op ≠ .select cs b)
    (hQ : ∀ c a w, ¬ Q (.panic c) a w) (hset : ∀ listed w, C (listed.setIfInBounds i true) w → C listed w) (hD : ∀ listed w, inv listed → C listed w → D w)
    (hinv : ∀ listed j, inv listed → i ∈ Region.ready .any ops listed → j ∈ Region.ready .any ops listed → j ≠ i → inv (listed.setIfInBounds j true)) :
    ∀ (fuel : Nat) (listed : Array Bool) (a : Act) (w : World), inv listed →
      (∀ j oj, ops[j]? = some oj → j ≠ i → listed.getD j true = false → (∀ e ∈ oj.after, Region.binds .any e = true → e.on ≠ i) → oi.apart ops oj = true) →
      i ∈ Region.ready .any ops listed → YV P ops D oi v a →
      anyS P ops C Q fuel (listed.setIfInBounds i true) (a.put oi.dst v) w → anyS P ops C Q (fuel + 1) listed a w := by
  intro fuel
  induction fuel with
  | zero =>
    intro listed a w hv _ hr hy H
    have hc : C listed w := hset _ _ H.1
    refine ⟨hc, fun h => (by rw [h] at hr; cases hr), fun j hj => ?_⟩
    by_cases hji : j = i
    · subst hji; exact hy.wpOp hi (hD _ _ hv hc) H
    · have := ready_mono hj hji
      rw [H.2.1] at this
      cases this
  | succ fuel ih =>
    intro listed a w hv hfree hr hy H
    have hc : C listed w := hset _ _ H.1
    refine ⟨hc, fun h => (by rw [h] at hr; cases hr), fun j hj => ?_⟩
    by_cases hji : j = i
    · subst hji; exact hy.wpOp hi (hD _ _ hv hc) H
    · have h1 := H.2.2 j (ready_mono hj hji)
      obtain ⟨hjun, oj, hoj, hall⟩ := mem_ready.1 hj
      have hnot : ∀ e ∈ oj.after, Region.binds .any e = true → e.on ≠ i := fun e he hb heq => by
        have h1 := hall e he hb
        have h0 := (mem_ready.1 hr).1
        rw [heq] at h1
        rcases Nat.lt_or_ge i listed.size with h' | h'
        · simp [h'] at h0 h1; rw [h0] at h1; cases h1
        · simp [Array.getElem?_eq_none h'] at h1
      have h2 := wpOp_over hoj (hfree j oj hoj hji hjun hnot) (fun cs b => hsel i oi cs b hi) (fun cs b => hsel j oj cs b hoj) hQ hy h1
      have hfree' : ∀ k ok, ops[k]? = some ok → k ≠ i → (listed.setIfInBounds j true).getD k true = false →
          (∀ e ∈ ok.after, Region.binds .any e = true → e.on ≠ i) → oi.apart ops ok = true := fun k ok hk hki hun hno => by
        refine hfree k ok hk hki ?_ hno
        by_cases hjk : j = k
        · subst hjk; exact hjun
        · rw [getD_set_ne true hjk] at hun; exact hun
      refine wpOp_mono (fun a' w' h3 => ih (listed.setIfInBounds j true) a' w' (hinv _ _ hv hr hj hji) hfree' (ready_mono hr (Ne.symm hji)) h3.1 ?_) h2
      rw [Array.setIfInBounds_comm _ _ hji]
      exact h3.2
end
/-- 'k' waits for 'i' by way of the operations of a chain, none of which is listed. -/
def linksB (ops : Array Oper) : Nat → List Nat → Nat → Bool
  | i, [], k => i == k
  | i, c :: cs, k => (match ops[c]? with | some o => o.after.toList.any fun e => Region.binds .any e && e.on == i | none => false) && linksB ops c cs k
def chainB (ops : Array Oper) (listed : List Bool) (i : Nat) (cs : List Nat) (k : Nat) : Bool := linksB ops i cs k && cs.all fun c => !(listed.getD c true)
theorem links_pred {ops : Array Oper} {k : Nat} : ∀ {cs : List Nat} {i : Nat}, linksB ops i cs k = true → ∀ c ∈ cs, ∃ o, ops[c]? = some o ∧ ∃ e ∈ o.after, Region.binds .any e = true ∧ (e.on = i ∨ e.on ∈ cs)
  | [], _, _, c, hc => by cases hc
  | d :: cs, i, h, c, hc => by
    simp only [linksB, Bool.and_eq_true] at h
    obtain ⟨h1, h2⟩ := h
    rcases List.mem_cons.1 hc with rfl | hc
    · cases ho : ops[c]? with
      | none => rw [ho] at h1; cases h1
      | some o =>
        rw [ho] at h1
        simp only [List.any_eq_true, Bool.and_eq_true, beq_iff_eq] at h1
        obtain ⟨e, he, hb, hon⟩ := h1
        exact ⟨o, rfl, e, by simpa using he, hb, .inl hon⟩
    · obtain ⟨o, ho, e, he, hb, hon⟩ := links_pred h2 c hc
      exact ⟨o, ho, e, he, hb, hon.elim (fun h => .inr (h ▸ List.mem_cons_self)) (fun h => .inr (List.mem_cons_of_mem _ h))⟩
theorem links_last {ops : Array Oper} {k : Nat} : ∀ {cs : List Nat} {i : Nat}, linksB ops i cs k = true → k = i ∨ k ∈ cs
  | [], i, h => by
    have h' : i = k := by simpa [linksB] using h
    exact .inl h'.symm
  | c :: cs, i, h => by
    simp only [linksB, Bool.and_eq_true] at h
    rcases links_last h.2 with h | h
    · exact .inr (h ▸ List.mem_cons_self)
    · exact .inr (List.mem_cons_of_mem _ h)
section
variable {P : Program} {N : Nat} {w0 : World} {V : Mem} {L0 LA : List Grp} {Q : Exit → Frm → List Grp → Prop} {f : Frm} {L : List Grp} {ops : Array Oper} {o : Oper} {d kk : Nat} {v : Value}
/-- The groups 'L0' stay as they are; 'LA' till the operation 'kk'. -/
def CL (w0 : World) (V : Mem) (L0 LA : List Grp) (kk : Nat) (listed : Array Bool) (w : World) : Prop := SH w0 V w L0 ∧ (listed.getD kk true = false → SH w0 V w LA)
def drawT (P : Program) (N : Nat) (w0 : World) (V : Mem) (L0 LA : List Grp) (kk : Nat) (ops : Array Oper) (Q : Exit → Frm → List Grp → Prop) (fuel : Nat) (listed : List Bool) (f : Frm) (L : List Grp) : Prop :=
  ∀ a w, Rep N f a → SH w0 V w L → anyS P ops (CL w0 V L0 LA kk) (onN fun a w => lift N w0 V Q .normal a w) fuel listed.toArray a w
theorem s_drawT {id : Nat} {l : List Oper} (L0 LA : List Grp) (kk : Nat) (hm : P.follows .mixedOrders = true) (h : drawT P N w0 V L0 LA kk l.toArray Q l.length (List.replicate l.length false) f L) : wpS P N w0 V (.region id l.toArray true) Q f L := by
  intro a w ha hw
  refine wp_mono (wp_region_any (Q := onN fun a w => lift N w0 V Q .normal a w) hm ?_) ?_
  · have := (h a _ ha (hw.drawn (w.drawn + 1))).any
    simpa [List.toArray_replicate] using this
  · intro e a w h
    cases e with
    | normal => exact h
    | _ => exact h.elim
/-- Which groups an operation reads: those that stay, or, if 'kk' waits for it, those that stay till then, too. -/
def Rds (L0 LA : List Grp) (ops : Array Oper) (listed : List Bool) (i kk : Nat) (LD : List Grp) : Prop := (i == kk) = false ∧ (LD = L0 ∨ (LD = LA ∧ ∃ cs, chainB ops listed i cs kk = true))
theorem Rds.stay {ops : Array Oper} {listed : List Bool} {i : Nat} (h : (i == kk) = false) : Rds L0 LA ops listed i kk L0 := ⟨h, .inl rfl⟩
theorem Rds.till {ops : Array Oper} {listed : List Bool} {i : Nat} (cs : List Nat) (h : ((i == kk) = false)) (hc : chainB ops listed i cs kk = true) : Rds L0 LA ops listed i kk LA := ⟨h, .inr ⟨rfl, cs, hc⟩⟩
theorem e_core {fuel i : Nat} {listed : List Bool} {LD : List Grp} (hi : ops[i]? = some o) (hs : Region.noSelect ops = true) (hr : (Region.ready .any ops listed.toArray).contains i = true) (hf : Region.free .any ops listed.toArray i = true) (hR : Rds L0 LA ops listed i kk LD) {a : Act} {w : World}
    (hy : YV P ops (fun w => SH w0 V w LD) o v a) (H : anyS P ops (CL w0 V L0 LA kk) (onN fun a w => lift N w0 V Q .normal a w) fuel (listed.set i true).toArray (a.put o.dst v) w) : anyS P ops (CL w0 V L0 LA kk) (onN fun a w => lift N w0 V Q .normal a w) (fuel + 1) listed.toArray a w := by
  obtain ⟨hne, hR⟩ := hR
  have hne' : i ≠ kk := by simpa using hne
  have hset : ∀ listed w, CL w0 V L0 LA kk (listed.setIfInBounds i true) w → CL w0 V L0 LA kk listed w := fun listed w h => ⟨h.1, fun hl => h.2 (by rw [getD_set_ne true hne']; exact hl)⟩
  have H' : anyS P ops (CL w0 V L0 LA kk) (onN fun a w => lift N w0 V Q .normal a w) fuel (listed.toArray.setIfInBounds i true) (a.put o.dst v) w := by simpa using H
  rcases hR with rfl | ⟨rfl, cs, hc⟩
  · exact anyS_first (D := fun w => SH w0 V w LD) (inv := fun _ => True) hi (Region.noSelect_spec hs) (fun _ _ _ h => h) hset (fun _ _ _ h => h.1) (fun _ _ _ _ _ _ => trivial) fuel _ a w trivial (Region.free_spec hi hf) (by simpa using hr) hy H'
  · simp only [chainB, Bool.and_eq_true, List.all_eq_true, Bool.not_eq_true'] at hc
    obtain ⟨hc1, hc2⟩ := hc
    have hk : kk ∈ cs := by
      rcases links_last hc1 with h | h
      · exact absurd h.symm hne'
      · exact h
    refine anyS_first (D := fun w => SH w0 V w LD) (inv := fun listed => ∀ c ∈ cs, listed.getD c true = false) hi (Region.noSelect_spec hs) (fun _ _ _ h => h) hset (fun _ _ hv h => h.2 (hv kk hk)) ?_ fuel _ a w (fun c hcm => by simpa using hc2 c hcm) (Region.free_spec hi hf) (by simpa using hr) hy H'
    intro listed j hv hri hrj hji c hcm
    have hjc : j ≠ c := by
      rintro rfl
      obtain ⟨oc, hoc, e, he, hb, hon⟩ := links_pred hc1 j hcm
      obtain ⟨_, oj, hoj, hall⟩ := mem_ready.1 hrj
      rw [hoc] at hoj
      cases hoj
      have h1 := hall e he hb
      have h0 : listed.getD e.on true = false := by
        rcases hon with h | h
        · rw [h]; exact (mem_ready.1 hri).1
        · exact hv _ h
      rcases Nat.lt_or_ge e.on listed.size with h' | h'
      · simp [h'] at h0 h1; rw [h0] at h1; cases h1
      · simp [Array.getElem?_eq_none h'] at h1
    rw [getD_set_ne true hjc]
    exact hv c hcm
theorem e_nil {fuel : Nat} {listed : List Bool} (js : List Nat) (hr : Region.ready .any ops listed.toArray = []) (hk : listed.getD kk true = true) (hs : picks js L = L0) (h : Q .normal f L) : drawT P N w0 V L0 LA kk ops Q fuel listed f L := by
  intro a w ha hw
  have hc : CL w0 V L0 LA kk listed.toArray w := ⟨sub_picks js hs _ _ _ hw, fun h => by
    have : listed.toArray.getD kk true = listed.getD kk true := by simp
    rw [this, hk] at h; cases h⟩
  cases fuel with
  | zero => exact ⟨hc, hr, f, L, ha, hw, h⟩
  | succ n => exact ⟨hc, fun _ => ⟨f, L, ha, hw, h⟩, by rw [hr]; simp⟩
variable {fuel i j : Nat} {listed : List Bool} {LD : List Grp} {b b' : Bool}
theorem e_val (hi : ops[i]? = some o) (hs : Region.noSelect ops = true) (hr : (Region.ready .any ops listed.toArray).contains i = true) (hf : Region.free .any ops listed.toArray i = true) (hR : Rds L0 LA ops listed i kk LD) (hg : o.guard = none) (hd : o.dst = some d) (hN : Nat.blt d N = true)
    (hy : Yld P f V LD o v) (h : drawT P N w0 V L0 LA kk ops Q fuel (listed.set i true) (upd f d v) L) : drawT P N w0 V L0 LA kk ops Q (fuel + 1) listed f L := by
  intro a w ha hw
  exact e_core hi hs hr hf hR (.inl ⟨by simp [Region.wanted, hg], fun w hc => by rw [ha.eval]; exact hy w0 w hc⟩) (h _ w (hd ▸ ha.put hN v) hw)
theorem e_guard_no (hi : ops[i]? = some o) (hs : Region.noSelect ops = true) (hr : (Region.ready .any ops listed.toArray).contains i = true) (hf : Region.free .any ops listed.toArray i = true) (hR : Rds L0 LA ops listed i kk L0) (hg : o.guard = some (j, b)) (hy : yieldF ops f j = some b') (hne : (b' == b) = false) (hd : o.dst = some d) (hN : Nat.blt d N = true)
    (h : drawT P N w0 V L0 LA kk ops Q fuel (listed.set i true) (upd f d undef) L) : drawT P N w0 V L0 LA kk ops Q (fuel + 1) listed f L := by
  intro a w ha hw
  have hy' := yieldF_eq ha hy
  have hne' : b' ≠ b := by simpa using hne
  exact e_core hi hs hr hf hR (v := undef) (.inr ⟨by simp [Region.wanted, hg, hy', hne'], rfl⟩) (h _ w (hd ▸ ha.put hN undef) hw)
theorem e_guard_un (hi : ops[i]? = some o) (hs : Region.noSelect ops = true) (hr : (Region.ready .any ops listed.toArray).contains i = true) (hf : Region.free .any ops listed.toArray i = true) (hR : Rds L0 LA ops listed i kk L0) (hg : o.guard = some (j, b)) (hy : yieldF ops f j = none) (hd : o.dst = some d) (hN : Nat.blt d N = true)
    (h : drawT P N w0 V L0 LA kk ops Q fuel (listed.set i true) (upd f d undef) L) : drawT P N w0 V L0 LA kk ops Q (fuel + 1) listed f L := by
  intro a w ha hw
  have hy' := yieldF_none ha hy
  exact e_core hi hs hr hf hR (v := undef) (.inr ⟨by simp [Region.wanted, hg, hy'], rfl⟩) (h _ w (hd ▸ ha.put hN undef) hw)
theorem e_val_g (hi : ops[i]? = some o) (hs : Region.noSelect ops = true) (hr : (Region.ready .any ops listed.toArray).contains i = true) (hf : Region.free .any ops listed.toArray i = true) (hR : Rds L0 LA ops listed i kk LD) (hg : o.guard = some (j, b)) (hyg : yieldF ops f j = some b) (hd : o.dst = some d) (hN : Nat.blt d N = true)
    (hy : Yld P f V LD o v) (h : drawT P N w0 V L0 LA kk ops Q fuel (listed.set i true) (upd f d v) L) : drawT P N w0 V L0 LA kk ops Q (fuel + 1) listed f L := by
  intro a w ha hw
  have hy' := yieldF_eq ha hyg
  exact e_core hi hs hr hf hR (.inl ⟨by simp [Region.wanted, hg, hy'], fun w hc => by rw [ha.eval]; exact hy w0 w hc⟩) (h _ w (hd ▸ ha.put hN v) hw)
theorem e_split {p : Prop} [Decidable p] (hi : ops[i]? = some o) (hs : Region.noSelect ops = true) (hr : (Region.ready .any ops listed.toArray).contains i = true) (hf : Region.free .any ops listed.toArray i = true) (hR : Rds L0 LA ops listed i kk LD) (hg : o.guard = none) (hd : o.dst = some d) (hN : Nat.blt d N = true)
    (hy : Yld P f V LD o (.bool (decide p))) (ht : p → drawT P N w0 V L0 LA kk ops Q fuel (listed.set i true) (upd f d (.bool true)) L) (hff : ¬ p → drawT P N w0 V L0 LA kk ops Q fuel (listed.set i true) (upd f d (.bool false)) L) : drawT P N w0 V L0 LA kk ops Q (fuel + 1) listed f L := by
  by_cases hp : p
  · exact e_val hi hs hr hf hR hg hd hN (hy.tt hp) (ht hp)
  · exact e_val hi hs hr hf hR hg hd hN (hy.ff hp) (hff hp)
theorem e_split_g {p : Prop} [Decidable p] (hi : ops[i]? = some o) (hs : Region.noSelect ops = true) (hr : (Region.ready .any ops listed.toArray).contains i = true) (hf : Region.free .any ops listed.toArray i = true) (hR : Rds L0 LA ops listed i kk LD) (hg : o.guard = some (j, b)) (hyg : yieldF ops f j = some b) (hd : o.dst = some d) (hN : Nat.blt d N = true)
    (hy : Yld P f V LD o (.bool (decide p))) (ht : p → drawT P N w0 V L0 LA kk ops Q fuel (listed.set i true) (upd f d (.bool true)) L) (hff : ¬ p → drawT P N w0 V L0 LA kk ops Q fuel (listed.set i true) (upd f d (.bool false)) L) : drawT P N w0 V L0 LA kk ops Q (fuel + 1) listed f L := by
  by_cases hp : p
  · exact e_val_g hi hs hr hf hR hg hyg hd hN (hy.tt hp) (ht hp)
  · exact e_val_g hi hs hr hf hR hg hyg hd hN (hy.ff hp) (hff hp)
/-- Operations that change memory: each of those that can come up. -/
theorem e_effs {k : Nat} {ks : List Nat} (js ja : List Nat) (hr : Region.ready .any ops listed.toArray = k :: ks) (hs : picks js L = L0) (ha0 : listed.getD kk true = true ∨ picks ja L = LA)
    (h : ∀ i ∈ k :: ks, ∃ o, ops[i]? = some o ∧ opsS P N w0 V ops (onlyS fun f' L' => drawT P N w0 V L0 LA kk ops Q fuel (listed.set i true) f' L') [o] f L) : drawT P N w0 V L0 LA kk ops Q (fuel + 1) listed f L := by
  intro a w ha hw
  have hc : CL w0 V L0 LA kk listed.toArray w := ⟨sub_picks js hs _ _ _ hw, fun h => by
    have e : listed.toArray.getD kk true = listed.getD kk true := by simp
    rcases ha0 with h1 | h1
    · rw [e, h1] at h; cases h
    · exact sub_picks ja h1 _ _ _ hw⟩
  refine ⟨hc, ?_, ?_⟩
  · intro h0; rw [hr] at h0; cases h0
  intro i hi
  rw [hr] at hi
  obtain ⟨o, hk, h0⟩ := h i hi
  have h1 := h0 a w ha hw
  have key : ∀ (K : Act → World → Prop), (∀ a' w', lift N w0 V (onlyS fun f' L' => drawT P N w0 V L0 LA kk ops Q fuel (listed.set i true) f' L') .normal a' w' → K a' w') → wpOp P ops (onN fun a w => lift N w0 V Q .normal a w) i K a w := by
    intro K hK
    unfold wpOp
    simp only [hk]
    unfold wpList at h1
    split at h1
    · rename_i hwa
      rw [if_pos hwa]
      rcases h1 with h1 | ⟨_, a', w', f', L', _, _, hF⟩
      · refine .inl ?_
        unfold Oper.wp at h1 ⊢
        generalize (execOp a.eval o).run P w = r at h1
        cases r with
        | ok nx w' =>
          cases nx <;> simp only [Oper.upon] at h1 ⊢
          case value u => exact hK _ _ h1
          case skip => exact hK _ _ h1
          case defer dd => exact hK _ _ h1
          case enter ff args =>
            refine Calls.mono h1 fun e w'' he => ?_
            cases e with
            | returned u => exact hK _ _ he
            | panicked c => obtain ⟨f', L', _, _, hF⟩ := he; exact hF.elim
            | outgrown => obtain ⟨a', w', f', L', _, _, hF⟩ := he; exact hF.elim
          case row row args => exact Rows.mono h1 fun u w'' he => hK _ _ he
        | halt x w' =>
          cases x <;> simp only [Oper.upon] at h1 ⊢
          case panic u => obtain ⟨f', L', _, _, hF⟩ := h1; exact hF.elim
      · exact hF.elim
    · rename_i hwa
      rw [if_neg hwa]
      exact hK _ _ h1
  refine key _ ?_
  rintro a' w' ⟨f', L', h1, h2, h3⟩
  have := h3 a' w' h1 h2
  simpa using this
theorem e_eff {k : Nat} (js ja : List Nat) (hk : ops[k]? = some o) (hr : Region.ready .any ops listed.toArray = [k]) (hs : picks js L = L0) (ha0 : listed.getD kk true = true ∨ picks ja L = LA)
    (h : opsS P N w0 V ops (onlyS fun f' L' => drawT P N w0 V L0 LA kk ops Q fuel (listed.set k true) f' L') [o] f L) : drawT P N w0 V L0 LA kk ops Q (fuel + 1) listed f L :=
  e_effs js ja hr hs ha0 fun i hi => by
    obtain rfl : i = k := by simpa using hi
    exact ⟨_, hk, h⟩
theorem e_eff2 {k k' : Nat} {o' : Oper} (js ja : List Nat) (hk : ops[k]? = some o) (hk' : ops[k']? = some o') (hr : Region.ready .any ops listed.toArray = [k, k']) (hs : picks js L = L0) (ha0 : listed.getD kk true = true ∨ picks ja L = LA)
    (h : opsS P N w0 V ops (onlyS fun f' L' => drawT P N w0 V L0 LA kk ops Q fuel (listed.set k true) f' L') [o] f L) (h' : opsS P N w0 V ops (onlyS fun f' L' => drawT P N w0 V L0 LA kk ops Q fuel (listed.set k' true) f' L') [o'] f L) : drawT P N w0 V L0 LA kk ops Q (fuel + 1) listed f L :=
  e_effs js ja hr hs ha0 fun i hi => by
    rcases List.mem_cons.1 hi with rfl | hi
    · exact ⟨_, hk, h⟩
    · obtain rfl : i = k' := by simpa using hi
      exact ⟨_, hk', h'⟩
end
end Go.Proofs.Ytacmbiohjiogiaa.K
