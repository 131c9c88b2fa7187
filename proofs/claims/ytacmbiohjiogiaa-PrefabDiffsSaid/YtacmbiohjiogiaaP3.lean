/- Walks over the package prefab: one value replaced. No condition beyond what each statement names. -/
import Derived.Test.YtacmbiohjiogiaaProg
import Derived.Test.YtacmbiohjiogiaaK19
import Derived.Test.YtacmbiohjiogiaaM1
import Derived.Test.YtacmbiohjiogiaaM2
import Derived.Test.YtacmbiohjiogiaaW1
import Derived.Test.YtacmbiohjiogiaaW2
import Derived.Test.YtacmbiohjiogiaaW3
import Derived.Test.YtacmbiohjiogiaaW4
import Derived.Test.YtacmbiohjiogiaaW6
import Derived.Test.YtacmbiohjiogiaaW7
import Derived.Test.YtacmbiohjiogiaaX1
import Derived.Test.YtacmbiohjiogiaaP1
import Derived.Test.YtacmbiohjiogiaaP2
set_option linter.unusedVariables false
set_option linter.unusedSimpArgs false
set_option maxRecDepth 100000
namespace Go.Proofs.Ytacmbiohjiogiaa.K
open Go.RowKit

theorem getD_at {α : Type} {xs : List α} {j : Nat} {d : α} (h : j < xs.length) : xs.getD j d = xs[j] := by rw [List.getD_eq_getElem?_getD, List.getElem?_eq_getElem h]; rfl
theorem BsOK.path {ks : List KR} {M : Mem} {bs : List BR} {gs : List Grp} (h : BsOK ks M bs gs) : ∀ x ∈ bs, PthOK M x := fun x hx => by
  obtain ⟨j, hj, rfl⟩ := List.mem_iff_getElem.1 hx
  have := (h.2 j hj).1
  rwa [getD_at hj] at this
theorem ix_find_none {α β : Type} [Inhabited α] {f : α → β} {q : α → Prop} [∀ x, Decidable (q x)] {t : β → Bool} {xs : List α} {k : Int} (h : IdxOK q xs k) (hk : k < 0) (ht : ∀ x, t (f x) = decide (q x)) : (xs.map f).findIdx? t = none := by
  rcases h with ⟨_, h⟩ | ⟨j, rfl, _⟩
  · rw [List.findIdx?_eq_none_iff]
    intro y hy
    obtain ⟨x, hx, rfl⟩ := List.mem_map.1 hy
    obtain ⟨j, hj, rfl⟩ := List.mem_iff_getElem.1 hx
    have := h j hj
    rw [getD_at hj] at this
    rw [ht]; simpa using this
  · omega
theorem ix_find_some {α β : Type} [Inhabited α] {f : α → β} {q : α → Prop} [∀ x, Decidable (q x)] {t : β → Bool} {xs : List α} {k : Int} (h : IdxOK q xs k) (hk : ¬ k < 0) (ht : ∀ x, t (f x) = decide (q x)) : ∃ j : Nat, k = j ∧ j < xs.length ∧ q (xs.getD j default) ∧ (xs.map f).findIdx? t = some j := by
  rcases h with ⟨rfl, _⟩ | ⟨j, rfl, hj, hp, hn⟩
  · omega
  · refine ⟨j, rfl, hj, hp, ?_⟩
    rw [List.findIdx?_eq_some_iff_getElem]
    rw [getD_at hj] at hp
    refine ⟨by simpa using hj, by rw [List.getElem_map, ht]; simpa using hp, fun i hi => ?_⟩
    have := hn i hi
    rw [getD_at (by omega)] at this
    rw [List.getElem_map, ht]; simpa using this
theorem bget (bs : List BR) (j : Nat) : (bs.map BR.d).getD j default = BR.d (bs.getD j default) := by
  simp only [List.getD_eq_getElem?_getD, List.getElem?_map]
  cases bs[j]? <;> rfl
theorem cget (cs : List CR) (j : Nat) : (cs.map CR.d).getD j default = CR.d (cs.getD j default) := by
  simp only [List.getD_eq_getElem?_getD, List.getElem?_map]
  cases cs[j]? <;> rfl
theorem overV_no1 {ks : List KR} {bs : List BR} {o : OvR} (h1 : pIdx (bs.map BR.d) o.ps = none) : overV ks (bs.map BR.d) o.d = .error 4 := by
  unfold overV OvR.d; simp only [h1]
theorem overV_no2 {ks : List KR} {bs : List BR} {o : OvR} {j : Nat} (h1 : pIdx (bs.map BR.d) o.ps = some j) (h2 : cIdx ((bs.getD j default).cs.map CR.d) o.kind = none) : overV ks (bs.map BR.d) o.d = .error 4 := by
  unfold overV OvR.d; simp only [h1, bget]; unfold BR.d; simp only [h2]
theorem overV_at {ks : List KR} {bs : List BR} {o : OvR} {j i : Nat} (h1 : pIdx (bs.map BR.d) o.ps = some j) (h2 : cIdx ((bs.getD j default).cs.map CR.d) o.kind = some i) : overV ks (bs.map BR.d) o.d =
    if o.field < 0 ∨ ((((bs.getD j default).cs.getD i default).vs.length : Nat) : Int) ≤ o.field then .error 4 else if fitsV (fldOf ks o.kind o.field) o.val then .ok ((bs.map BR.d).set j ((bs.getD j default).ps, putC ((bs.getD j default).cs.map CR.d) i o.field o.val)) else .error 1 := by
  unfold overV OvR.d; simp only [h1, bget]; unfold BR.d; simp only [h2, cget]; rfl
theorem holds_put {k : KR} {vs : List Int} (h : holdsV k vs) {f : Nat} (hf : f < vs.length) {v : Int} : fitV k.fs (vs.set f v) = vs.set f v ↔ fitsV (k.fs.getD f default) v := by
  obtain ⟨h1, h2, h3⟩ := holds_fits h
  have hl : (vs.set f v).length = k.fs.length := by rw [List.length_set]; exact h2
  constructor
  · intro e
    have := fitV_get hl (show f < k.fs.length by omega)
    rw [e, getD_set' hf, if_pos rfl] at this
    exact (nearV_eq (one_field h1 (by omega))).1 this.symm
  · intro hv
    refine ext_getD (by rw [fitV_len hl, hl]) fun i hi => ?_
    rw [fitV_len hl] at hi
    rw [fitV_get hl hi]
    refine (nearV_eq (one_field h1 hi)).2 ?_
    rw [getD_set' hf]
    split
    · rename_i e; rw [e]; exact hv
    · exact h3 i hi
theorem holds_set {k : KR} {vs : List Int} (h : holdsV k vs) {f : Nat} (hf : f < vs.length) {v : Int} (hv : fitsV (k.fs.getD f default) v) : holdsV k (vs.set f v) :=
  ⟨by rw [List.length_set]; exact h.1, (holds_put h hf).2 hv⟩
theorem held_set {ks : List KR} {cs : List CR} (h : heldP ks cs) {i : Nat} (hi : i < cs.length) {c : CR} (hk : c.kind = (cs.getD i default).kind) (hv : holdsV (ks.getD c.kind.toNat default) c.vs) : heldP ks (cs.set i c) := by
  have hlast : ∀ j, j ≤ cs.length → lastC (cs.set i c) j = lastC cs j := fun j hj => by
    cases j with
    | zero => rfl
    | succ j =>
      simp only [lastC]; rw [getD_set' hi]
      split
      · rename_i e; rw [e]; exact hk
      · rfl
  intro j hj
  rw [List.length_set] at hj
  rw [hlast j (by omega), getD_set' hi]
  split
  · rename_i e
    obtain ⟨h1, h2, _⟩ := h j hj
    rw [e] at h1 h2
    exact ⟨by rw [hk, e]; exact h1, by rw [hk]; exact h2, hv⟩
  · exact h j hj
/-- The entity with other components in the same place. -/
def BR.put (b : BR) (cs : List CR) : BR := ⟨b.pA, b.pn, b.pc, b.ps, b.cA, b.cn, b.cc, cs⟩
theorem flat_same {bs : List BR} {j : Nat} {cs : List CR} : (bs.set j ((bs.getD j default).put cs)).flatMap encB = bs.flatMap encB := by
  by_cases hj : j < bs.length
  · have e1 : bs = bs.take j ++ (bs.getD j default :: bs.drop (j + 1)) := by
      rw [getD_at hj, List.getElem_cons_drop, List.take_append_drop]
    rw [List.set_eq_take_append_cons_drop, if_pos hj]
    conv => rhs; rw [e1]
    simp only [List.flatMap_append, List.flatMap_cons]; rfl
  · rw [List.set_eq_of_length_le (by omega)]
theorem map_put {bs : List BR} {j : Nat} {cs : List CR} : (bs.set j ((bs.getD j default).put cs)).map BR.d = (bs.map BR.d).set j ((bs.getD j default).ps, cs.map CR.d) := List.map_set
theorem map_putC {cs : List CR} {i : Nat} {f v : Int} {B : Option Addr} {n e : Nat} : (cs.set i (newC (cs.getD i default).kind B n e ((cs.getD i default).vs.set f.toNat v))).map CR.d = putC (cs.map CR.d) i f v := by
  unfold putC; rw [cget]; exact List.map_set
theorem put_done (bs : List BR) (j i : Nat) (f v : Int) (B : Option Addr) (n e : Nat) : (bs.map BR.d).set j ((bs.getD j default).ps, putC ((bs.getD j default).cs.map CR.d) i f v) = (bs.set j ((bs.getD j default).put ((bs.getD j default).cs.set i (newC ((bs.getD j default).cs.getD i default).kind B n e (((bs.getD j default).cs.getD i default).vs.set f.toNat v))))).map BR.d := by rw [map_put, map_putC]

theorem Over_c {V M : Mem} (hm0 : MSub M V) (A : Option Addr) (n c : Nat) (ks : List KR) (hks : KsOK V A n c ks) (bA : Option Addr) (bn bC : Nat) (bs : List BR) (hbc : Cels V [] bA (bs.flatMap encB)) (hbe : bs.length = bn) (hbl : bs.length ≤ 1000) (gs : List Grp) (hb : BsOK ks M bs gs) (o : OvR) (ho : OvOK V o) : CallS Try.prog 149 [.slice A n c, .slice bA bn bC, .agg #[.slice o.A o.n o.c, .int .i64 o.kind, .int .i64 o.field, .int .i64 o.val]].toArray V [gs.flatten] (fun r L' => (∃ e : Int, overV ks (bs.map BR.d) o.d = .error e ∧ e ≠ 0 ∧ r = .int .i64 e ∧ L' = [gs.flatten]) ∨ (∃ (bs' : List BR) (gs' : List Grp) (vG : Grp), overV ks (bs.map BR.d) o.d = .ok (bs'.map BR.d) ∧ r = .int .i64 0 ∧ bs'.flatMap encB = bs.flatMap encB ∧ BsOK ks (orM M (inG vG)) bs' gs' ∧ L' = [gs'.flatten, vG])) := by
  obtain ⟨hKl, hKc, hKb, hK, hKK⟩ := hks
  refine callS Try.func149 rfl rfl (fun w0 => ?_)
  refine s_seq ?_
  refine s_region ?_
  refine o_box (v := (.agg #[(.slice _ _ _), (.int _ _), (.int _ _), (.int _ _)])) rfl rfl rfl (fun b1 => ?_)
  refine o_val rfl rfl rfl (y_assign (v := (.int _ _)) rfl) ?_
  refine o_nil ?_
  refine s_seq ?_
  refine s_region ?_
  refine o_val rfl rfl rfl (y_move (v := (.slice _ _ _)) rfl) ?_
  refine o_val rfl rfl rfl (y_func' (xs := []) (a := []) (b := [(.pointer _)]) rfl rfl) ?_
  refine o_pull 1 ?_
  refine o_fn 1 (d := 14) rfl Try.call193 (IndexFB_c bA bn bC bs hbc.here.down hbe (by omega) (fun x hx => (hb.path x hx).sub (hm0.trans MSub.ext)) 194 [.pointer (some ⟨b1, 0, none⟩)] Try.call194 _ (fun x => x.ps = o.ps) (fun V' hm x hx => over1_c x hx b1 o ((ho.sub MSub.ext).sub hm))) rfl ?_
  rintro _ _ ⟨k, rfl, hk, rfl⟩
  refine o_val rfl rfl rfl (y_assign (v := (.int _ _)) rfl) ?_
  refine o_nil ?_
  refine s_seq ?_
  refine s_seq ?_
  refine s_region ?_
  refine o_val rfl rfl rfl (y_move (v := (.int _ _)) rfl) ?_
  refine o_val rfl rfl rfl (y_lss rfl rfl) ?_
  refine o_nil ?_
  refine s_if rfl (fun h2 => ?_) (fun h3 => ?_)
  · have hf1 : pIdx (bs.map BR.d) o.ps = none := ix_find_none hk h2 (fun _ => rfl)
    refine s_seq ?_
    refine s_region ?_
    refine o_val rfl rfl rfl (y_assign (v := (.int _ _)) rfl) ?_
    refine o_nil ?_
    refine s_ret ?_
    exact ⟨_, [_], res1 rfl rfl, .inl ⟨4, overV_no1 hf1, by decide, rfl, rfl⟩, sub_picks [1] rfl⟩
  · obtain ⟨j, rfl, hjl, hjp, hf1'⟩ := ix_find_some (f := BR.d) (t := fun b => decide (b.1 = o.ps)) hk h3 (fun _ => rfl)
    have hf1 : pIdx (bs.map BR.d) o.ps = some j := hf1'
    have hbj : BOK ks M (gs.getD j []) (bs.getD ((j : Nat) : Int).toNat default) := hb.2 j hjl
    have hjg : j < gs.length := by have := hb.1; omega
    have hcm := hbj.2.1.mem.ms (inG_list hjg)
    have hbn := hbj.2.2.2.2.1
    have hbx := hbj.2.2.2.2.2
    have hjl2 : ((j : Nat) : Int).toNat < bs.length := hjl
    refine s_skip ?_
    refine s_seq ?_
    refine s_region ?_
    refine o_val rfl rfl rfl (y_move (v := (.slice _ _ _)) rfl) ?_
    refine o_val rfl rfl rfl (y_move (v := (.int _ _)) rfl) ?_
    refine o_val rfl rfl rfl (y_indexAddr Try.runUnderlying28 Try.sizeOf35 (some_at (sz := 1) encB_len (i := 0) hbc (by omega)) rfl rfl (by omega)) ?_
    refine o_val rfl rfl rfl (y_fieldX (F := 1) Try.runUnderlying35 rfl Try.sizeOf33 rfl (some_at (sz := 1) encB_len (i := 0) hbc (by omega)) rfl) ?_
    refine o_val rfl rfl rfl (y_load Try.isAgg33 rfl ((cels_at (sz := 2) encB_len hbc.here (by omega)).cel' (i := 1) rfl)) ?_
    refine o_val rfl rfl rfl (y_func' (xs := []) (a := []) (b := [(.pointer _)]) rfl rfl) ?_
    refine o_fn 1 (d := 23) rfl Try.call195 (IndexFC_c (bs.getD ((j : Nat) : Int).toNat default).cA (bs.getD ((j : Nat) : Int).toNat default).cn (bs.getD ((j : Nat) : Int).toNat default).cc (bs.getD ((j : Nat) : Int).toNat default).cs (hcm.ms (inG_ext (j := 0) rfl)) hbn (by omega) (fun z hz => (hbj.2.2.1 z hz).sub (hm0.trans MSub.ext)) 196 [.pointer (some ⟨b1, 0, none⟩)] Try.call196 _ (fun x => x.kind = o.kind) (fun V' x hx => over2_c x hx b1 o)) rfl ?_
    rintro _ _ ⟨k2, rfl, hk2, rfl⟩
    refine o_val rfl rfl rfl (y_assign (v := (.int _ _)) rfl) ?_
    refine o_nil ?_
    refine s_forget [(0, (.slice _ _ _)), (1, (.slice _ _ _)), (5, (.pointer _)), (6, (.int _ _)), (7, (.int _ _)), (8, (.int _ _))] ⟨rfl, rfl, rfl, rfl, rfl, rfl, trivial⟩ (fun _f => ?_)
    refine s_seq ?_
    refine s_seq ?_
    refine s_quiet (by kernel_rfl) (by kernel_rfl) ?_
    refine q_val rfl rfl rfl (y_move (v := (.int _ _)) rfl) ?_
    refine q_split rfl rfl rfl (y_lss rfl rfl) (fun p4 => ?_) (fun p5 => ?_)
    · have hf2 : cIdx ((bs.getD ((j : Nat) : Int).toNat default).cs.map CR.d) o.kind = none := ix_find_none hk2 p4 (fun _ => rfl)
      refine q_val rfl rfl rfl (y_move (v := (.bool _)) rfl) ?_
      refine q_guard_no rfl rfl rfl rfl rfl ?_
      refine q_guard_no rfl rfl rfl rfl rfl ?_
      refine q_guard_no rfl rfl rfl rfl rfl ?_
      refine q_guard_no rfl rfl rfl rfl rfl ?_
      refine q_val rfl rfl rfl (y_pick_t (v := (.bool _)) rfl rfl) ?_
      refine q_val rfl rfl rfl (y_move (v := (.bool _)) rfl) ?_
      refine q_guard_no rfl rfl rfl rfl rfl ?_
      refine q_guard_no rfl rfl rfl rfl rfl ?_
      refine q_guard_no rfl rfl rfl rfl rfl ?_
      refine q_guard_no rfl rfl rfl rfl rfl ?_
      refine q_guard_no rfl rfl rfl rfl rfl ?_
      refine q_guard_no rfl rfl rfl rfl rfl ?_
      refine q_guard_no rfl rfl rfl rfl rfl ?_
      refine q_guard_no rfl rfl rfl rfl rfl ?_
      refine q_guard_no rfl rfl rfl rfl rfl ?_
      refine q_guard_no rfl rfl rfl rfl rfl ?_
      refine q_guard_no rfl rfl rfl rfl rfl ?_
      refine q_guard_no rfl rfl rfl rfl rfl ?_
      refine q_guard_no rfl rfl rfl rfl rfl ?_
      refine q_guard_no rfl rfl rfl rfl rfl ?_
      refine q_val rfl rfl rfl (y_pick_t (v := (.bool _)) rfl rfl) ?_
      refine q_nil ?_
      refine s_forget [(0, (.slice _ _ _)), (1, (.slice _ _ _)), (5, (.pointer _)), (6, (.int _ _)), (7, (.int _ _)), (8, (.int _ _)), (47, (.bool _))] ⟨rfl, rfl, rfl, rfl, rfl, rfl, rfl, trivial⟩ (fun _f => ?_)
      refine s_then rfl ?_
      refine s_seq ?_
      refine s_region ?_
      refine o_val rfl rfl rfl (y_assign (v := (.int _ _)) rfl) ?_
      refine o_nil ?_
      refine s_ret ?_
      exact ⟨_, [_], res1 rfl rfl, .inl ⟨4, overV_no2 hf1 hf2, by decide, rfl, rfl⟩, sub_picks [1] rfl⟩
    · obtain ⟨i, rfl, hil, hck, hf2'⟩ := ix_find_some (f := CR.d) (t := fun c => decide (c.1 = o.kind)) hk2 p5 (fun _ => rfl)
      have hf2 : cIdx ((bs.getD ((j : Nat) : Int).toNat default).cs.map CR.d) o.kind = some i := hf2'
      have hcc := hbj.2.2.1 _ (getD_mem' (show i < (bs.getD ((j : Nat) : Int).toNat default).cs.length by omega) : ((bs.getD ((j : Nat) : Int).toNat default).cs.getD ((i : Nat) : Int).toNat default) ∈ (bs.getD ((j : Nat) : Int).toNat default).cs)
      have hcd : goodC ks (lastC (bs.getD ((j : Nat) : Int).toNat default).cs i) ((bs.getD ((j : Nat) : Int).toNat default).cs.getD ((i : Nat) : Int).toNat default) := hbj.2.2.2.1 i hil
      have hcg := lastC_geP hbj.2.2.2.1 (show i ≤ (bs.getD ((j : Nat) : Int).toNat default).cs.length by omega)
      have hck1 := hcd.1
      have hck2 := hcd.2.1
      have hcv := hcd.2.2
      have hck : ((bs.getD ((j : Nat) : Int).toNat default).cs.getD ((i : Nat) : Int).toNat default).kind = o.kind := hck
      rw [hck] at hck1 hck2 hcv
      have hvl := hcc.1
      have hil2 : ((i : Nat) : Int).toNat < (bs.getD ((j : Nat) : Int).toNat default).cs.length := hil
      have hat : overV ks (bs.map BR.d) o.d = if o.field < 0 ∨ (((((bs.getD ((j : Nat) : Int).toNat default).cs.getD ((i : Nat) : Int).toNat default).vs.length : Nat) : Int) ≤ o.field) then .error 4 else if fitsV (fldOf ks o.kind o.field) o.val then .ok ((bs.map BR.d).set j ((bs.getD ((j : Nat) : Int).toNat default).ps, putC ((bs.getD ((j : Nat) : Int).toNat default).cs.map CR.d) i o.field o.val)) else .error 1 := overV_at (ks := ks) hf1 hf2
      refine q_val rfl rfl rfl (y_move (v := (.bool _)) rfl) ?_
      refine q_guard_yes rfl rfl ?_
      refine q_val rfl rfl rfl (y_field0 Try.runUnderlying147 rfl Try.sizeOf145 rfl rfl) ?_
      refine q_guard_yes rfl rfl ?_
      refine q_val rfl rfl rfl (y_field0 Try.runUnderlying145 rfl Try.sizeOf3 rfl rfl) ?_
      refine q_guard_yes rfl rfl ?_
      refine q_val rfl rfl rfl (y_load Try.isAgg3 rfl (cel_own 0 rfl rfl)) ?_
      refine q_guard_yes rfl rfl ?_
      refine q_split rfl rfl rfl (y_lss rfl rfl) (fun p6 => ?_) (fun p7 => ?_)
      · refine q_val rfl rfl rfl (y_pick_f (v := (.bool _)) rfl rfl) ?_
        refine q_val rfl rfl rfl (y_move (v := (.bool _)) rfl) ?_
        refine q_guard_no rfl rfl rfl rfl rfl ?_
        refine q_guard_no rfl rfl rfl rfl rfl ?_
        refine q_guard_no rfl rfl rfl rfl rfl ?_
        refine q_guard_no rfl rfl rfl rfl rfl ?_
        refine q_guard_no rfl rfl rfl rfl rfl ?_
        refine q_guard_no rfl rfl rfl rfl rfl ?_
        refine q_guard_no rfl rfl rfl rfl rfl ?_
        refine q_guard_no rfl rfl rfl rfl rfl ?_
        refine q_guard_no rfl rfl rfl rfl rfl ?_
        refine q_guard_no rfl rfl rfl rfl rfl ?_
        refine q_guard_no rfl rfl rfl rfl rfl ?_
        refine q_guard_no rfl rfl rfl rfl rfl ?_
        refine q_guard_no rfl rfl rfl rfl rfl ?_
        refine q_guard_no rfl rfl rfl rfl rfl ?_
        refine q_val rfl rfl rfl (y_pick_t (v := (.bool _)) rfl rfl) ?_
        refine q_nil ?_
        refine s_forget [(0, (.slice _ _ _)), (1, (.slice _ _ _)), (5, (.pointer _)), (6, (.int _ _)), (7, (.int _ _)), (8, (.int _ _)), (47, (.bool _))] ⟨rfl, rfl, rfl, rfl, rfl, rfl, rfl, trivial⟩ (fun _f => ?_)
        refine s_then rfl ?_
        refine s_seq ?_
        refine s_region ?_
        refine o_val rfl rfl rfl (y_assign (v := (.int _ _)) rfl) ?_
        refine o_nil ?_
        refine s_ret ?_
        exact ⟨_, [_], res1 rfl rfl, .inl ⟨4, by rw [hat, if_pos (by omega)], by decide, rfl, rfl⟩, sub_picks [1] rfl⟩
      · refine q_val rfl rfl rfl (y_pick_f (v := (.bool _)) rfl rfl) ?_
        refine q_val rfl rfl rfl (y_move (v := (.bool _)) rfl) ?_
        refine q_guard_yes rfl rfl ?_
        refine q_val rfl rfl rfl (y_field0 Try.runUnderlying147 rfl Try.sizeOf145 rfl rfl) ?_
        refine q_guard_yes rfl rfl ?_
        refine q_val rfl rfl rfl (y_field0 Try.runUnderlying145 rfl Try.sizeOf3 rfl rfl) ?_
        refine q_guard_yes rfl rfl ?_
        refine q_val rfl rfl rfl (y_load Try.isAgg3 rfl (cel_own 0 rfl rfl)) ?_
        refine q_guard_yes rfl rfl ?_
        refine q_val rfl rfl rfl (y_move (v := (.slice _ _ _)) rfl) ?_
        refine q_guard_yes rfl rfl ?_
        refine q_val rfl rfl rfl (y_move (v := (.int _ _)) rfl) ?_
        refine q_guard_yes rfl rfl ?_
        refine q_val rfl rfl rfl (y_indexAddr Try.runUnderlying28 Try.sizeOf35 (some_at (sz := 1) encB_len (i := 0) hbc (by omega)) rfl rfl (by omega)) ?_
        refine q_guard_yes rfl rfl ?_
        refine q_val rfl rfl rfl (y_fieldX (F := 1) Try.runUnderlying35 rfl Try.sizeOf33 rfl (some_at (sz := 1) encB_len (i := 0) hbc (by omega)) rfl) ?_
        refine q_guard_yes rfl rfl ?_
        refine q_val rfl rfl rfl (y_load Try.isAgg33 rfl ((cels_at (sz := 2) encB_len hbc.here (by omega)).cel' (i := 1) rfl)) ?_
        refine q_guard_yes rfl rfl ?_
        refine q_val rfl rfl rfl (y_move (v := (.int _ _)) rfl) ?_
        refine q_guard_yes rfl rfl ?_
        refine q_val rfl rfl rfl (y_indexAddr Try.runUnderlying33 Try.sizeOf155 (some_at (sz := 1) encC_len (i := 0) hcm (by omega)) rfl rfl (by omega)) ?_
        refine q_guard_yes rfl rfl ?_
        refine q_val rfl rfl rfl (y_fieldX (F := 1) Try.runUnderlying155 rfl Try.sizeOf22 rfl (some_at (sz := 1) encC_len (i := 0) hcm (by omega)) rfl) ?_
        refine q_guard_yes rfl rfl ?_
        refine q_val rfl rfl rfl (y_load Try.isAgg22 rfl ((cels_at (sz := 2) encC_len ((hcm).ms (inG_ext (j := 1) rfl)).up (by omega)).cel' (i := 1) rfl)) ?_
        refine q_guard_yes rfl rfl ?_
        refine q_val rfl rfl rfl (y_len Try.runUnderlying22 rfl) ?_
        refine q_guard_yes rfl rfl ?_
        refine q_val rfl rfl rfl (y_geq rfl rfl) ?_
        refine q_val rfl rfl rfl (y_pick_f (v := (.bool _)) rfl rfl) ?_
        refine q_nil ?_
        refine s_forget [(0, (.slice _ _ _)), (1, (.slice _ _ _)), (5, (.pointer _)), (6, (.int _ _)), (7, (.int _ _)), (8, (.int _ _)), (47, (.bool _))] ⟨rfl, rfl, rfl, rfl, rfl, rfl, rfl, trivial⟩ (fun _f => ?_)
        refine s_if rfl (fun h8 => ?_) (fun h9 => ?_)
        · refine s_seq ?_
          refine s_region ?_
          refine o_val rfl rfl rfl (y_assign (v := (.int _ _)) rfl) ?_
          refine o_nil ?_
          refine s_ret ?_
          exact ⟨_, [_], res1 rfl rfl, .inl ⟨4, by rw [hat, if_pos (by omega)], by decide, rfl, rfl⟩, sub_picks [1] rfl⟩
        · refine s_skip ?_
          refine s_seq ?_
          refine s_region ?_
          refine o_val rfl rfl rfl (y_move (v := (.slice _ _ _)) rfl) ?_
          refine o_val rfl rfl rfl (y_move (v := (.int _ _)) rfl) ?_
          refine o_val rfl rfl rfl (y_indexAddr Try.runUnderlying28 Try.sizeOf35 (some_at (sz := 1) encB_len (i := 0) hbc (by omega)) rfl rfl (by omega)) ?_
          refine o_val rfl rfl rfl (y_fieldX (F := 1) Try.runUnderlying35 rfl Try.sizeOf33 rfl (some_at (sz := 1) encB_len (i := 0) hbc (by omega)) rfl) ?_
          refine o_val rfl rfl rfl (y_load Try.isAgg33 rfl ((cels_at (sz := 2) encB_len hbc.here (by omega)).cel' (i := 1) rfl)) ?_
          refine o_val rfl rfl rfl (y_move (v := (.int _ _)) rfl) ?_
          refine o_val rfl rfl rfl (y_indexAddr Try.runUnderlying33 Try.sizeOf155 (some_at (sz := 1) encC_len (i := 0) hcm (by omega)) rfl rfl (by omega)) ?_
          refine o_val rfl rfl rfl (y_fieldX (F := 1) Try.runUnderlying155 rfl Try.sizeOf22 rfl (some_at (sz := 1) encC_len (i := 0) hcm (by omega)) rfl) ?_
          refine o_val rfl rfl rfl (y_load Try.isAgg22 rfl ((cels_at (sz := 2) encC_len ((hcm).ms (inG_ext (j := 1) rfl)).up (by omega)).cel' (i := 1) rfl)) ?_
          refine o_fn 0 (d := 57) rfl Try.call93 (CloneI_c ((bs.getD ((j : Nat) : Int).toNat default).cs.getD ((i : Nat) : Int).toNat default).A ((bs.getD ((j : Nat) : Int).toNat default).cs.getD ((i : Nat) : Int).toNat default).n ((bs.getD ((j : Nat) : Int).toNat default).cs.getD ((i : Nat) : Int).toNat default).c ((bs.getD ((j : Nat) : Int).toNat default).cs.getD ((i : Nat) : Int).toNat default).vs ((hcc.2.2.2.ms hm0).here).down hcc.1 (by have := hcc.2.2.1; omega)) rfl ?_
          rintro _ _ ⟨vB, ve, vG, rfl, hvo, rfl⟩
          refine o_val rfl rfl rfl (y_assign (v := (.slice _ _ _)) rfl) ?_
          refine o_nil ?_
          refine s_seq ?_
          refine s_region ?_
          refine o_val rfl rfl rfl (y_move (v := (.slice _ _ _)) rfl) ?_
          refine o_val rfl rfl rfl (y_field0 Try.runUnderlying147 rfl Try.sizeOf145 rfl rfl) ?_
          refine o_val rfl rfl rfl (y_field0 Try.runUnderlying145 rfl Try.sizeOf3 rfl rfl) ?_
          refine o_val rfl rfl rfl (y_load Try.isAgg3 rfl (cel_own 1 rfl rfl)) ?_
          refine o_val rfl rfl rfl (y_field0 Try.runUnderlying147 rfl Try.sizeOf3 rfl rfl) ?_
          refine o_val rfl rfl rfl (y_load Try.isAgg3 rfl (cel_own 1 rfl rfl)) ?_
          refine o_val rfl rfl rfl (y_index1 Try.runUnderlying22 Try.sizeOf3 (hvo.some_of (by omega)) rfl rfl (by omega)) ?_
          refine o_store_os (vs := [(.int _ _)]) 0 rfl hvo Try.sizeOf3 rfl rfl rfl (by simp [Value.oneCell']) (by simp) (by first | omega | (rw [List.length_map]; simp only [List.length_cons, List.length_nil]; omega)) (fun E10 ho11 => ?_)
          have ho12 := os_lay_int ho11 (by first | omega | (rw [List.length_map]; simp only [List.length_cons, List.length_nil]; omega))
          clear ho11
          refine o_nil ?_
          refine s_forget [(0, (.slice _ _ _)), (1, (.slice _ _ _)), (5, (.pointer _)), (6, (.int _ _)), (7, (.int _ _)), (8, (.int _ _)), (9, (.slice _ _ _))] ⟨rfl, rfl, rfl, rfl, rfl, rfl, rfl, trivial⟩ (fun _f => ?_)
          refine s_seq ?_
          refine s_region ?_
          have hnl : (((bs.getD ((j : Nat) : Int).toNat default).cs.getD ((i : Nat) : Int).toNat default).vs.set o.field.toNat o.val).length = ((bs.getD ((j : Nat) : Int).toNat default).cs.getD ((i : Nat) : Int).toNat default).n := by rw [List.length_set]; exact hvl
          refine o_val rfl rfl rfl (y_move (v := (.slice _ _ _)) rfl) ?_
          refine o_val rfl rfl rfl (y_field0 Try.runUnderlying147 rfl Try.sizeOf145 rfl rfl) ?_
          refine o_val rfl rfl rfl (y_field0 Try.runUnderlying145 rfl Try.sizeOf3 rfl rfl) ?_
          refine o_val rfl rfl rfl (y_load Try.isAgg3 rfl (cel_own 1 rfl rfl)) ?_
          refine o_val rfl rfl rfl (y_indexAddr Try.runUnderlying23 Try.sizeOf58 (some_at (sz := 1) encK_len (i := 0) hK (by omega)) rfl rfl (by omega)) ?_
          refine o_val rfl rfl rfl (y_loads (cs := [_, _]) Try.isAgg58 Try.sizeOf58 rfl (by unfold idx; rw [Option.isSome_map]; exact some_at (sz := 1) encK_len (i := 0) hK (by omega)) rfl (cels_at (sz := 2) encK_len hK.here (by omega))) ?_
          refine o_val rfl rfl rfl (y_move (v := (.slice _ _ _)) rfl) ?_
          refine o_fn 0 (d := 73) rfl Try.call143 (FitK_c (ks.getD o.kind.toNat default) (KOK.sub (hKK _ (getD_mem' (show o.kind.toNat < ks.length by omega))) MSub.ext) vB ((bs.getD ((j : Nat) : Int).toNat default).cs.getD ((i : Nat) : Int).toNat default).n ve (((bs.getD ((j : Nat) : Int).toNat default).cs.getD ((i : Nat) : Int).toNat default).vs.set o.field.toNat o.val) (ho12.cels (j := 0) rfl).down hnl (by have := hcc.2.2.1; omega)) rfl ?_
          rintro _ _ (⟨hbad, rfl, rfl⟩ | ⟨hgood, B, E, rfl, hbo, hbS, rfl⟩)
          · exact absurd (hcc.1 ▸ hcv.1) hbad
          · have hfl2 : (fitV (ks.getD o.kind.toNat default).fs (((bs.getD ((j : Nat) : Int).toNat default).cs.getD ((i : Nat) : Int).toNat default).vs.set o.field.toNat o.val)).length = ((bs.getD ((j : Nat) : Int).toNat default).cs.getD ((i : Nat) : Int).toNat default).n := by simpa using hbo.len
            refine o_val rfl rfl rfl (y_move (v := (.tuple #[(.slice _ _ _), (.int _ _)])) rfl) ?_
            refine o_val rfl rfl rfl (y_extract (v := (.slice _ _ _)) rfl rfl) ?_
            refine o_val rfl rfl rfl (y_extract (v := (.int _ _)) rfl rfl) ?_
            refine o_val rfl rfl rfl (y_assign (v := (.slice _ _ _)) rfl) ?_
            refine o_val rfl rfl rfl (y_assign (v := (.int _ _)) rfl) ?_
            refine o_nil ?_
            refine s_seq ?_
            refine s_seq ?_
            refine s_region ?_
            refine o_val rfl rfl rfl (y_move (v := (.int _ _)) rfl) ?_
            refine o_val rfl rfl rfl (y_neq rfl rfl) ?_
            refine o_nil ?_
            refine s_forget [(1, (.slice _ _ _)), (6, (.int _ _)), (7, (.int _ _)), (8, (.int _ _)), (9, (.slice _ _ _)), (10, (.slice _ _ _)), (11, (.int _ _)), (77, (.bool _))] ⟨rfl, rfl, rfl, rfl, rfl, rfl, rfl, rfl, trivial⟩ (fun _f => ?_)
            refine s_if rfl (fun h13 => ?_) (fun h14 => ?_)
            · exact absurd rfl h13
            · refine s_skip ?_
              refine s_seq ?_
              refine s_seq ?_
              refine s_region ?_
              refine o_val rfl rfl rfl (y_move (v := (.slice _ _ _)) rfl) ?_
              refine o_val rfl rfl rfl (y_move (v := (.slice _ _ _)) rfl) ?_
              refine o_fn 0 (d := 81) rfl Try.call21 (EqualI_c B ((bs.getD ((j : Nat) : Int).toNat default).cs.getD ((i : Nat) : Int).toNat default).n ((bs.getD ((j : Nat) : Int).toNat default).cs.getD ((i : Nat) : Int).toNat default).n (fitV (ks.getD o.kind.toNat default).fs (((bs.getD ((j : Nat) : Int).toNat default).cs.getD ((i : Nat) : Int).toNat default).vs.set o.field.toNat o.val)) (hbo.cels (j := 0) rfl).down hfl2 vB ((bs.getD ((j : Nat) : Int).toNat default).cs.getD ((i : Nat) : Int).toNat default).n ve (((bs.getD ((j : Nat) : Int).toNat default).cs.getD ((i : Nat) : Int).toNat default).vs.set o.field.toNat o.val) (ho12.cels (j := 1) rfl).down hnl (by have := hcc.2.2.1; omega)) rfl ?_
              rintro _ _ ⟨rfl, rfl⟩
              refine o_val rfl rfl rfl (y_not rfl) ?_
              refine o_nil ?_
              refine s_if rfl (fun h15 => ?_) (fun h16 => ?_)
              · have hnf : ¬ fitsV (fldOf ks o.kind o.field) o.val := fun hh => absurd ((holds_put hcv (by omega)).2 hh) h15
                refine s_seq ?_
                refine s_region ?_
                refine o_val rfl rfl rfl (y_assign (v := (.int _ _)) rfl) ?_
                refine o_nil ?_
                refine s_ret ?_
                exact ⟨_, [_], res1 rfl rfl, .inl ⟨1, by rw [hat, if_neg (by omega), if_neg hnf], by decide, rfl, rfl⟩, sub_picks [3] rfl⟩
              · have hyf : fitsV (fldOf ks o.kind o.field) o.val := (holds_put hcv (by omega)).1 (Decidable.not_not.1 h16)
                refine s_skip ?_
                refine s_seq ?_
                refine s_region ?_
                refine o_pull 3 ?_
                refine o_takeG j hjg ?_
                refine o_val rfl rfl rfl (y_move (v := (.slice _ _ _)) rfl) ?_
                refine o_val rfl rfl rfl (y_move (v := (.int _ _)) rfl) ?_
                refine o_val rfl rfl rfl (y_indexAddr Try.runUnderlying28 Try.sizeOf35 (some_at (sz := 1) encB_len (i := 0) hbc (by omega)) rfl rfl (by omega)) ?_
                refine o_val rfl rfl rfl (y_fieldX (F := 1) Try.runUnderlying35 rfl Try.sizeOf33 rfl (some_at (sz := 1) encB_len (i := 0) hbc (by omega)) rfl) ?_
                refine o_val rfl rfl rfl (y_load Try.isAgg33 rfl ((cels_at (sz := 2) encB_len hbc.here (by omega)).cel' (i := 1) rfl)) ?_
                refine o_val rfl rfl rfl (y_move (v := (.int _ _)) rfl) ?_
                refine o_val rfl rfl rfl (y_move (v := (.slice _ _ _)) rfl) ?_
                refine o_val rfl rfl rfl (y_indexAddr Try.runUnderlying33 Try.sizeOf155 (hbj.2.1.some_of (by omega)) rfl rfl (by omega)) ?_
                refine o_val rfl rfl rfl (y_fieldX (F := 1) Try.runUnderlying155 rfl Try.sizeOf22 rfl (hbj.2.1.some_of (by omega)) rfl) ?_
                refine o_store_os (vs := [(.slice _ _ _)]) 0 rfl hbj.2.1 Try.sizeOf22 rfl rfl rfl (by simp [Value.oneCell']) (by simp) (by rw [flat_len encC_len]; simp only [List.length_cons, List.length_nil]; omega) (fun E17 ho18 => ?_)
                have ho19 : OS (bs.getD ((j : Nat) : Int).toNat default).cA (bs.getD ((j : Nat) : Int).toNat default).cn (bs.getD ((j : Nat) : Int).toNat default).cc 155 2 (((bs.getD ((j : Nat) : Int).toNat default).cs.set i (newC ((bs.getD ((j : Nat) : Int).toNat default).cs.getD ((i : Nat) : Int).toNat default).kind vB ((bs.getD ((j : Nat) : Int).toNat default).cs.getD ((i : Nat) : Int).toNat default).n ve (((bs.getD ((j : Nat) : Int).toNat default).cs.getD ((i : Nat) : Int).toNat default).vs.set o.field.toNat o.val))).flatMap encC) E17 := os_eq ho18 (lay_set (i := i) (k := 1) encC_len hil (Nat.le_of_ble_eq_true rfl) rfl)
                clear ho18
                refine o_nil ?_
                refine s_seq ?_
                refine s_region ?_
                refine o_pull 1 ?_
                refine o_pull 1 ?_
                refine o_putG j hjg ?_
                refine o_val rfl rfl rfl (y_assign (v := (.int _ _)) rfl) ?_
                refine o_nil ?_
                refine s_ret ?_
                have hnb : BOK ks (orM M (inG E10)) E17 ((bs.getD ((j : Nat) : Int).toNat default).put ((bs.getD ((j : Nat) : Int).toNat default).cs.set i (newC ((bs.getD ((j : Nat) : Int).toNat default).cs.getD ((i : Nat) : Int).toNat default).kind vB ((bs.getD ((j : Nat) : Int).toNat default).cs.getD ((i : Nat) : Int).toNat default).n ve (((bs.getD ((j : Nat) : Int).toNat default).cs.getD ((i : Nat) : Int).toNat default).vs.set o.field.toNat o.val)))) := ⟨hbj.1.sub orM_left, ho19, all_set (fun x hx => (hbj.2.2.1 x hx).sub orM_left) ⟨hnl, (ho12).2.1, hcc.2.2.1, (ho12).mem.ms orM_right⟩, held_set hbj.2.2.2.1 hil rfl (by dsimp only [newC]; rw [hck]; exact holds_set hcv (by omega) hyf), by dsimp only [BR.put]; rw [List.length_set]; exact hbn, hbx⟩
                exact ⟨_, [_, _], res1 rfl rfl, .inr ⟨bs.set j ((bs.getD ((j : Nat) : Int).toNat default).put ((bs.getD ((j : Nat) : Int).toNat default).cs.set i (newC ((bs.getD ((j : Nat) : Int).toNat default).cs.getD ((i : Nat) : Int).toNat default).kind vB ((bs.getD ((j : Nat) : Int).toNat default).cs.getD ((i : Nat) : Int).toNat default).n ve (((bs.getD ((j : Nat) : Int).toNat default).cs.getD ((i : Nat) : Int).toNat default).vs.set o.field.toNat o.val)))), gs.set j E17, E10, by rw [hat, if_neg (by omega), if_pos hyf]; exact congrArg Except.ok (put_done bs j i o.field o.val _ _ _), rfl, flat_same (j := j), (hb.sub orM_left).set hjl hnb, rfl⟩, sub_picks [0, 1] rfl⟩

end Go.Proofs.Ytacmbiohjiogiaa.K
