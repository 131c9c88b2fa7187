/- Walks over the package prefab: a template built. No condition beyond what each statement names. -/
import Derived.Test.YtacmbiohjiogiaaProg
import Derived.Test.YtacmbiohjiogiaaK19
import Derived.Test.YtacmbiohjiogiaaM1
import Derived.Test.YtacmbiohjiogiaaM2
import Derived.Test.YtacmbiohjiogiaaW1
import Derived.Test.YtacmbiohjiogiaaW2
import Derived.Test.YtacmbiohjiogiaaW3
import Derived.Test.YtacmbiohjiogiaaW4
import Derived.Test.YtacmbiohjiogiaaW6
import Derived.Test.YtacmbiohjiogiaaW7
import Derived.Test.YtacmbiohjiogiaaX1
import Derived.Test.YtacmbiohjiogiaaP1
import Derived.Test.YtacmbiohjiogiaaP2
import Derived.Test.YtacmbiohjiogiaaP3
set_option linter.unusedVariables false
set_option linter.unusedSimpArgs false
set_option maxRecDepth 100000
namespace Go.Proofs.Ytacmbiohjiogiaa.K
open Go.RowKit

theorem tget (l : List PfR) (n : Nat) : (l.map PfR.d).getD n default = PfR.d (l.getD n default) := by
  simp only [List.getD_eq_getElem?_getD, List.getElem?_map]
  cases l[n]? <;> rfl
theorem paget (l : List PaR) (n : Nat) : (l.map PaR.d).getD n default = PaR.d (l.getD n default) := by
  simp only [List.getD_eq_getElem?_getD, List.getElem?_map]
  cases l[n]? <;> rfl
theorem good_at {ks : List KR} {l : List PfR} {n k : Nat} (h : goodT ks (l.map PfR.d) n) (hk : k < (l.getD n default).ps.length) : 0 ≤ ((l.getD n default).ps.getD k default).of ∧ ((l.getD n default).ps.getD k default).of < n ∧ ((l.getD n default).ps.getD k default).os.length ≤ 40 ∧ ∃ bs, useV ks (l.map PfR.d) ((l.getD n default).ps.getD k default).d = .ok bs := by
  have h2 := h.2 k (by rw [tget]; simpa [PfR.d] using hk)
  rw [tget] at h2
  simp only [PfR.d] at h2
  rw [paget] at h2
  obtain ⟨a1, a2, a3, a4⟩ := h2
  exact ⟨a1, a2, by simpa [PaR.d] using a3, a4⟩
theorem rawTo_stepP {ks : List KR} {l : List PfR} {n k : Nat} {bs : List BV} (h : goodT ks (l.map PfR.d) n) (hk : k < (l.getD n default).ps.length) (hu : useV ks (l.map PfR.d) ((l.getD n default).ps.getD k default).d = .ok bs) : rawTo ks (l.map PfR.d) n (k + 1) = rawTo ks (l.map PfR.d) n k ++ bs.map (preV (k : Nat)) := by
  refine rawTo_step h (by rw [tget]; simpa [PfR.d] using hk) ?_
  rw [tget]; simp only [PfR.d]; rw [paget]; exact hu
theorem rawV_P (ks : List KR) (l : List PfR) (n : Nat) : rawV ks (l.map PfR.d) n = rawTo ks (l.map PfR.d) n (l.getD n default).ps.length := by
  rw [rawV_eq, tget]; simp [PfR.d]
theorem rawTo_0P (ks : List KR) (l : List PfR) (n : Nat) : rawTo ks (l.map PfR.d) n 0 = [([], (l.getD n default).cs.map CR.d)] := by
  rw [rawTo_zero, tget]; rfl
theorem rawTo_15P {ks : List KR} {l : List PfR} {n : Nat} (hg : ∀ i, i ≤ n → goodT ks (l.map PfR.d) i) (hn : n ≤ 3) {k : Nat} (hk : k ≤ (l.getD n default).ps.length) : (rawTo ks (l.map PfR.d) n k).length ≤ 15 := rawTo_15 hg hn (by rw [tget]; simpa [PfR.d] using hk)
theorem raw_pathP {ks : List KR} {l : List PfR} {n : Nat} (hg : ∀ i, i ≤ n → goodT ks (l.map PfR.d) i) {bs bs' : List BV} {os : List OV} (hb : rawV ks (l.map PfR.d) n = bs) (hu : oversV ks bs os = .ok bs') : ∀ b ∈ bs', b.1.length ≤ n := fun b hb' => by
  have hpp := (oversV_len hu).2
  have h1 : b.1 ∈ bs.map Prod.fst := hpp ▸ List.mem_map.2 ⟨b, hb', rfl⟩
  obtain ⟨d, hd, hdc⟩ := List.mem_map.1 h1
  rw [← hb, rawV_eq] at hd
  rw [← hdc]
  exact raw_path n hg _ (Nat.le_refl _) d hd
theorem held_d {ks : List KR} {cs cs' : List CR} (h : heldP ks cs) (e : cs'.map CR.d = cs.map CR.d) : heldP ks cs' := by
  have hl : cs'.length = cs.length := by have := congrArg List.length e; simpa using this
  have hg : ∀ j, CR.d (cs'.getD j default) = CR.d (cs.getD j default) := fun j => by rw [← cget, ← cget, e]
  have hlast : ∀ j, lastC cs' j = lastC cs j := fun j => by
    cases j with
    | zero => rfl
    | succ j => exact congrArg Prod.fst (hg j)
  intro j hj
  have h1 : (cs'.getD j default).kind = (cs.getD j default).kind := congrArg Prod.fst (hg j)
  have h2 : (cs'.getD j default).vs = (cs.getD j default).vs := congrArg Prod.snd (hg j)
  obtain ⟨a1, a2, a3⟩ := h j (by omega)
  exact ⟨by rw [hlast, h1]; exact a1, by rw [h1]; exact a2, by rw [h1, h2]; exact a3⟩
theorem take_map_next {α β : Type} {f : α → β} {xs ys : List α} {y d : α} (hk : xs.length < ys.length) (h : xs.map f = (ys.take xs.length).map f) (he : f y = f (ys.getD xs.length d)) : (xs ++ [y]).map f = (ys.take (xs ++ [y]).length).map f := by
  rw [List.length_append, List.length_singleton, take_next (d := d) hk, List.map_append, List.map_append, h]
  simp [he]
structure LB4 where
  cs : List CR
  A : Option Addr
  c : Nat
  E : Grp
  P : Grp
structure LO4 where
  k : Nat
  bs : List BR
  gs : List Grp
  A : Option Addr
  c : Nat
  E : Grp
  P : Grp
structure LI4 where
  j : Nat
  bs : List BR
  A : Option Addr
  c : Nat
  E : Grp
  P : Grp
structure LV4 where
  k : Nat
  bs : List BR
  gs : List Grp
  P : Grp
theorem BsOK.one {ks : List KR} {M : Mem} {b : BR} {E : Grp} (h : BOK ks M E b) : BsOK ks M [b] [E] := ⟨rfl, fun j hj => by
  have : j = 0 := by simp at hj; omega
  subst this; exact h⟩
/-- What 'build' gives. -/
def resV (ks : List KR) (ts : List TV) (n : Nat) (os : List OV) : Except Int (List BV) := if 40 < os.length then .error 2 else oversV ks (rawV ks ts n) os
theorem take_cons {α : Type} {xs : List α} {k : Nat} {d : α} (hk : k < xs.length) : xs = xs.take k ++ xs.getD k d :: xs.drop (k + 1) := by
  rw [getD_at hk, List.getElem_cons_drop, List.take_append_drop]
theorem oget (l : List OvR) (n : Nat) : (l.map OvR.d).getD n default = OvR.d (l.getD n default) := by
  simp only [List.getD_eq_getElem?_getD, List.getElem?_map]
  cases l[n]? <;> rfl
theorem overs_bad {ks : List KR} {bs bs1 : List BV} {os : List OvR} {k : Nat} {e : Int} (hk : k < os.length) (h : oversV ks bs ((os.map OvR.d).take k) = .ok bs1) (he : overV ks bs1 (os.getD k default).d = .error e) : oversV ks bs (os.map OvR.d) = .error e := by
  rw [take_cons (xs := os.map OvR.d) (k := k) (d := default) (by simpa using hk), oget, List.append_cons]
  refine oversV_err ?_
  rw [oversV_snoc h]; exact he
theorem overs_next {ks : List KR} {bs bs1 bs2 : List BV} {os : List OvR} {k : Nat} (hk : k < os.length) (h : oversV ks bs ((os.map OvR.d).take k) = .ok bs1) (he : overV ks bs1 (os.getD k default).d = .ok bs2) : oversV ks bs ((os.map OvR.d).take (k + 1)) = .ok bs2 := by
  rw [take_next (d := default) (by simpa using hk), oget, oversV_snoc h]; exact he

theorem lastC_up {ks : List KR} {cs : List CR} (h : heldP ks cs) : ∀ {j : Nat}, j ≤ cs.length → (j : Int) - 1 ≤ lastC cs j
  | 0, _ => by simp [lastC]
  | j + 1, hj => by
    have h1 := lastC_up h (j := j) (by omega)
    have h2 := (h j (by omega)).1
    simp only [lastC]; omega
theorem held_len {ks : List KR} {cs : List CR} (hck : ckErr ks = 0) (h : heldP ks cs) : cs.length ≤ 16 := by
  have h0 := ck_len hck
  cases hc : cs.length with
  | zero => omega
  | succ m =>
    have h1 := lastC_up h (j := m) (by omega)
    have h2 := (h m (by omega)).1
    have h3 := (h m (by omega)).2.1
    omega

theorem Build0_k0 (w : World) : (Instr.build 35 ([] : List (Nat × Value)).toArray).run Try.prog w = .ok (.agg #[.slice none 0 0, .slice none 0 0]) w := by kernel_rfl
theorem Build0_k1 (v0 : Int) (v1A : Option Addr) (v1n : Nat) (v1c : Nat) (w : World) : (Instr.build 155 ([(0, (.int .i64 v0)), (1, (.slice v1A v1n v1c))] : List (Nat × Value)).toArray).run Try.prog w = .ok (.agg #[.int .i64 v0, .slice v1A v1n v1c]) w := by kernel_rfl
theorem Build0_k2 (v0x0 : Int) (v0x1A : Option Addr) (v0x1n : Nat) (v0x1c : Nat) (w : World) : (Instr.buildSlice 33 1 ([(0, (.agg #[(.int .i64 v0x0), (.slice v0x1A v0x1n v0x1c)]))] : List (Nat × Value)).toArray).run Try.prog w = .ok (.slice (some ⟨w.heap.size, 0, none⟩) 1 1) { w with heap := w.heap.push (.cells ([.int .i64 v0x0, .slice v0x1A v0x1n v0x1c] : List Value).toArray 155 (0, 0)) } := by kernel_rfl
theorem Build0_k3 (v0x0A : Option Addr) (v0x0n : Nat) (v0x0c : Nat) (v0x1A : Option Addr) (v0x1n : Nat) (v0x1c : Nat) (w : World) : (Instr.buildSlice 28 1 ([(0, (.agg #[(.slice v0x0A v0x0n v0x0c), (.slice v0x1A v0x1n v0x1c)]))] : List (Nat × Value)).toArray).run Try.prog w = .ok (.slice (some ⟨w.heap.size, 0, none⟩) 1 1) { w with heap := w.heap.push (.cells ([.slice v0x0A v0x0n v0x0c, .slice v0x1A v0x1n v0x1c] : List Value).toArray 35 (0, 0)) } := by kernel_rfl
theorem Build0_k4 (v0 : Int) (w : World) : (Instr.buildSlice 22 1 ([(0, (.int .i64 v0))] : List (Nat × Value)).toArray).run Try.prog w = .ok (.slice (some ⟨w.heap.size, 0, none⟩) 1 1) { w with heap := w.heap.push (.cells ([.int .i64 v0] : List Value).toArray 3 (0, 0)) } := by kernel_rfl
theorem Build0_c (n : Nat) : ∀ {V : Mem} (A : Option Addr) (nK cK : Nat) (ks : List KR) (hks : KsOK V A nK cK ks) (hck : ckErr ks = 0) (lA : Option Addr) (ln lc : Nat) (l : List PfR) (hl : LsOK V lA ln lc l) (hg : ∀ i, i ≤ n → goodT ks (l.map PfR.d) i) (hh : ∀ i, i ≤ n → heldP ks (l.getD i default).cs) (hn : n < l.length) (hn3 : n ≤ 3) (z : Int) (hz : z = (n : Int)) (oA : Option Addr) (on oc : Nat) (os : List OvR) (hos : OsOK V oA on oc os), CallS Try.prog 89 [.slice A nK cK, .slice lA ln lc, .int .i64 z, .slice oA on oc].toArray V [] (fun r L' => (∃ e : Int, resV ks (l.map PfR.d) n (os.map OvR.d) = .error e ∧ e ≠ 0 ∧ r = .tuple #[.slice none 0 0, .int .i64 e] ∧ L' = []) ∨ (∃ (bs : List BR) (gs : List Grp) (bA : Option Addr) (bn bC : Nat) (E P : Grp), resV ks (l.map PfR.d) n (os.map OvR.d) = .ok (bs.map BR.d) ∧ r = .tuple #[.slice bA bn bC, .int .i64 0] ∧ bs.length = bn ∧ OS bA bn bC 35 2 ((bs).flatMap encB) E ∧ BsOK ks (inG P) bs gs ∧ L' = [E, gs.flatten, P])) := by
  induction n using Nat.strongRecOn
  rename_i n ih
  intro V A nK cK ks hks hck lA ln lc l hl hg hh hn hn3 z hz oA on oc os hos
  subst hz
  have hpf := hl.2.2.2.2 _ (getD_mem' hn : (l.getD ((n : Nat) : Int).toNat default) ∈ l)
  have hpcl := hpf.1.1
  have hpl := hpf.2.1
  have hpb := hpf.2.2.2.1
  have hpcb := hpf.1.2.2.1
  have hll := hl.1
  have hlb := hl.2.2.1
  have hosl := hos.1
  have hosb := hos.2.2.1
  have hcn16 : (l.getD ((n : Nat) : Int).toNat default).cn ≤ 1000 := by have := held_len hck (hh n (Nat.le_refl _)); have e : (l.getD n default).cs.length = (l.getD ((n : Nat) : Int).toNat default).cn := hpcl; omega
  refine callS Try.func89 rfl rfl (fun w0 => ?_)
  refine s_seq ?_
  refine s_region ?_
  refine o_val rfl rfl rfl (y_assign (v := (.slice _ _ _)) rfl) ?_
  refine o_val rfl rfl rfl (y_assign (v := (.int _ _)) rfl) ?_
  refine o_nil ?_
  refine s_seq ?_
  refine s_seq ?_
  refine s_region ?_
  refine o_val rfl rfl rfl (y_move (v := (.slice _ _ _)) rfl) ?_
  refine o_val rfl rfl rfl (y_len Try.runUnderlying39 rfl) ?_
  refine o_val rfl rfl rfl (y_gtr rfl rfl) ?_
  refine o_nil ?_
  refine s_if rfl (fun h1 => ?_) (fun h2 => ?_)
  · refine s_seq ?_
    refine s_region ?_
    refine o_val rfl rfl rfl (y_assign (v := (.slice _ _ _)) rfl) ?_
    refine o_val rfl rfl rfl (y_assign (v := (.int _ _)) rfl) ?_
    refine o_nil ?_
    refine s_ret ?_
    exact ⟨_, [], res2 rfl rfl rfl, .inl ⟨2, if_pos (by rw [List.length_map]; omega), by decide, rfl, rfl⟩, sub_picks [] rfl⟩
  · refine s_skip ?_
    refine s_seq ?_
    refine s_region ?_
    refine o_val rfl rfl rfl (y_build (vs := []) rfl (Build0_k0)) ?_
    refine o_alloc rfl Try.zeroValue35 rfl (fun b3 => ?_)
    refine o_stores (vs := [(.slice _ _ _), (.slice _ _ _)]) 0 rfl Try.sizeOf35 rfl rfl rfl (by simp [Value.oneCell']) (by simp) ?_
    refine o_nil ?_
    refine s_seq ?_
    refine s_seq ?_
    refine s_region ?_
    refine o_val rfl rfl rfl (y_move (v := (.slice _ _ _)) rfl) ?_
    refine o_val rfl rfl rfl (y_move (v := (.int _ _)) rfl) ?_
    refine o_val rfl rfl rfl (y_indexAddr Try.runUnderlying25 Try.sizeOf38 (some_at (sz := 1) encPf_len (i := 0) hl.2.2.2.1 (by omega)) rfl rfl (by omega)) ?_
    refine o_val rfl rfl rfl (y_fieldX (F := 0) Try.runUnderlying38 rfl Try.sizeOf33 rfl (some_at (sz := 1) encPf_len (i := 0) hl.2.2.2.1 (by omega)) rfl) ?_
    refine o_val rfl rfl rfl (y_load Try.isAgg33 rfl ((cels_at (sz := 2) encPf_len hl.2.2.2.1.here (by omega)).cel' (i := 0) rfl)) ?_
    refine o_val rfl rfl rfl (y_len Try.runUnderlying33 rfl) ?_
    refine o_val rfl rfl rfl (y_move (v := (.int _ _)) rfl) ?_
    refine o_nil ?_
    refine s_forget [(0, (.slice _ _ _)), (1, (.slice _ _ _)), (2, (.int _ _)), (3, (.slice _ _ _)), (8, (.slice _ _ _)), (9, (.int _ _)), (10, (.pointer _)), (31, (.slice _ _ _)), (32, (.int _ _)), (33, (.int _ _))] ⟨rfl, rfl, rfl, rfl, rfl, rfl, rfl, rfl, rfl, rfl, trivial⟩ (fun _f => ?_)
    refine s_block ?_
    refine s_group ?_
    refine s_group ?_
    refine s_loopK (γ := LB4) [(0, (.slice _ _ _)), (1, (.slice _ _ _)), (2, (.int _ _)), (3, (.slice _ _ _)), (8, (.slice _ _ _)), (9, (.int _ _)), (10, (.pointer _)), (31, (.slice _ _ _)), (32, (.int _ _))] [] (fun g => [(33, .int .i64 g.cs.length)]) (fun g => [[(b3, .cells [.slice none 0 0, .slice g.A g.cs.length g.c].toArray 35 (0, 0))], g.E, g.P]) (fun g => g.cs.length ≤ (l.getD ((n : Nat) : Int).toNat default).cn ∧ OS g.A g.cs.length g.c 155 2 ((g.cs).flatMap encC) g.E ∧ (∀ y ∈ g.cs, COK (inG g.P) y) ∧ g.cs.map CR.d = ((l.getD ((n : Nat) : Int).toNat default).cs.take g.cs.length).map CR.d) (fun g => (l.getD ((n : Nat) : Int).toNat default).cn - g.cs.length) (LB4.mk [] none 0 [] []) ⟨rfl, rfl, rfl, rfl, rfl, rfl, rfl, rfl, rfl, rfl, trivial⟩ (sub_picks [0, 0, 0] rfl) ?_ ?_
    · exact ⟨Nat.zero_le _, OS.nil _ _, fun y hy => absurd hy List.not_mem_nil, rfl⟩
    intro g _f hI
    refine s_norm _ (by simp only [pull, picks, setG, List.cons_append, List.nil_append, List.append_nil, List.drop_succ_cons, List.drop_zero]; rfl) ?_
    obtain ⟨hgk, hco, hcx, hcd⟩ := hI
    refine s_seq ?_
    refine s_region ?_
    refine o_val rfl rfl rfl (y_lss rfl rfl) ?_
    refine o_nil ?_
    refine s_seq ?_
    refine s_if rfl (fun h4 => ?_) (fun h5 => ?_)
    · refine s_skip ?_
      refine s_seq ?_
      refine s_block ?_
      refine s_seq ?_
      refine s_region ?_
      refine o_val rfl rfl rfl (y_indexAddr Try.runUnderlying33 Try.sizeOf155 (some_at (sz := 1) encC_len (i := 0) hpf.1.2.2.2.1 (by omega)) rfl rfl (by omega)) ?_
      refine o_val rfl rfl rfl (y_loads (cs := [_, _]) Try.isAgg155 Try.sizeOf155 rfl (by unfold idx; rw [Option.isSome_map]; exact some_at (sz := 1) encC_len (i := 0) hpf.1.2.2.2.1 (by omega)) rfl (cels_at (sz := 2) encC_len hpf.1.2.2.2.1.here (by omega))) ?_
      have hcc := hpf.1.2.2.2.2 _ (getD_mem' (show g.cs.length < (l.getD ((n : Nat) : Int).toNat default).cs.length by omega) : ((l.getD ((n : Nat) : Int).toNat default).cs.getD ((g.cs.length : Nat) : Int).toNat default) ∈ (l.getD ((n : Nat) : Int).toNat default).cs)
      have hccb := hcc.2.2.1
      refine o_alloc rfl Try.zeroValue155 rfl (fun b6 => ?_)
      refine o_stores (vs := [(.int _ _), (.slice _ _ _)]) 3 rfl Try.sizeOf155 rfl rfl rfl (by simp [Value.oneCell']) (by simp) ?_
      refine o_nil ?_
      refine s_norm [[(_, .cells [(.slice _ _ _), (.slice _ _ _)].toArray 35 (0, 0))], _, _, [(_, .cells [(.int _ _), (.slice _ _ _)].toArray 155 (0, 0))]] rfl ?_
      refine s_pull 1 ?_
      refine s_pull 1 ?_
      refine s_drawn 2 (by kernel_rfl) ?_
      refine d_val (i := 0) rfl (by kernel_rfl) (by kernel_rfl) (by kernel_rfl) rfl rfl rfl (y_field0 Try.runUnderlying35 rfl Try.sizeOf33 rfl rfl) ?_
      refine d_val (i := 2) rfl (by kernel_rfl) (by kernel_rfl) (by kernel_rfl) rfl rfl rfl (y_field0 Try.runUnderlying155 rfl Try.sizeOf3 rfl rfl) ?_
      refine d_val (i := 3) rfl (by kernel_rfl) (by kernel_rfl) (by kernel_rfl) rfl rfl rfl (y_load Try.isAgg3 rfl (cel_own 1 rfl rfl)) ?_
      refine d_val (i := 4) rfl (by kernel_rfl) (by kernel_rfl) (by kernel_rfl) rfl rfl rfl (y_field0 Try.runUnderlying155 rfl Try.sizeOf22 rfl rfl) ?_
      refine d_val (i := 5) rfl (by kernel_rfl) (by kernel_rfl) (by kernel_rfl) rfl rfl rfl (y_load Try.isAgg22 rfl (cel_own 1 rfl rfl)) ?_
      refine d_eff2 (k := 1) (k' := 6) (n := 2) (m := 2) rfl rfl (by kernel_rfl) rfl ?_ ?_
      · refine o_val rfl rfl rfl (y_load Try.isAgg33 rfl (cel_own 0 rfl rfl)) ?_
        refine o_nil ?_
        refine d_eff (k := 6) (n := 2) (m := 2) rfl (by kernel_rfl) rfl ?_
        refine o_fn 0 (d := 43) rfl Try.call93 (CloneI_c ((l.getD ((n : Nat) : Int).toNat default).cs.getD ((g.cs.length : Nat) : Int).toNat default).A ((l.getD ((n : Nat) : Int).toNat default).cs.getD ((g.cs.length : Nat) : Int).toNat default).n ((l.getD ((n : Nat) : Int).toNat default).cs.getD ((g.cs.length : Nat) : Int).toNat default).c ((l.getD ((n : Nat) : Int).toNat default).cs.getD ((g.cs.length : Nat) : Int).toNat default).vs (hcc.2.2.2.here.down) hcc.1 (by have := hcc.2.2.1; omega)) rfl ?_
        rintro _ _ ⟨vB, ve, vG, rfl, hvo, rfl⟩
        refine o_nil ?_
        refine d_val (i := 7) rfl (by kernel_rfl) (by kernel_rfl) (by kernel_rfl) rfl rfl rfl (y_build (vs := [(0, .int _ _), (1, .slice _ _ _)]) rfl (Build0_k1 _ _ _ _)) ?_
        refine d_eff (k := 8) (n := 3) (m := 2) rfl (by kernel_rfl) rfl ?_
        refine o_lit (vs := [(0, .agg #[.int _ _, .slice _ _ _])]) rfl rfl (Build0_k2 _ _ _ _) (fun b7 => ?_)
        refine o_nil ?_
        refine d_eff (k := 9) (n := 3) (m := 2) rfl (by kernel_rfl) rfl ?_
        refine o_append (sz := 2) (bytes := 32) (news := [(.int _ _), (.slice _ _ _)]) 2 rfl Try.underlying33 Try.type155 rfl rfl rfl rfl rfl hco rfl rfl (Src.slice Try.underlying33 (cels_own 5 rfl rfl) rfl (by simp [Value.oneCell']) (by simp)) (by omega) (fun A8 c9 E10 ho11 hn12 => ?_)
        have ho13 : OS A8 (g.cs.length + 1) c9 155 2 ((g.cs ++ [(newC ((l.getD ((n : Nat) : Int).toNat default).cs.getD ((g.cs.length : Nat) : Int).toNat default).kind vB ((l.getD ((n : Nat) : Int).toNat default).cs.getD ((g.cs.length : Nat) : Int).toNat default).n ve ((l.getD ((n : Nat) : Int).toNat default).cs.getD ((g.cs.length : Nat) : Int).toNat default).vs)]).flatMap encC) E10 := os_snoc ho11 rfl
        clear ho11
        refine o_nil ?_
        refine d_val (i := 10) rfl (by kernel_rfl) (by kernel_rfl) (by kernel_rfl) rfl rfl rfl (y_field0 Try.runUnderlying35 rfl Try.sizeOf33 rfl rfl) ?_
        refine d_eff (k := 11) (n := 3) (m := 2) rfl (by kernel_rfl) rfl ?_
        refine o_store (v := (.slice _ _ _)) 1 rfl Try.sizeOf33 rfl rfl rfl rfl ?_
        refine o_nil ?_
        refine d_nil (n := 3) (m := 2) (by kernel_rfl) rfl ?_
        refine s_norm [_, [(_, .cells [(.slice _ _ _), (.slice _ _ _)].toArray 35 (0, 0))], _, _, [(_, .cells [(.int _ _), (.slice _ _ _)].toArray 155 (0, 0))], [(_, .cells [(.int _ _), (.slice _ _ _)].toArray 155 (0, 0))]] rfl ?_
        refine s_forget [(0, (.slice _ _ _)), (1, (.slice _ _ _)), (2, (.int _ _)), (3, (.slice _ _ _)), (8, (.slice _ _ _)), (9, (.int _ _)), (10, (.pointer _)), (31, (.slice _ _ _)), (32, (.int _ _)), (33, (.int _ _))] ⟨rfl, rfl, rfl, rfl, rfl, rfl, rfl, rfl, rfl, rfl, trivial⟩ (fun _f => ?_)
        refine s_region ?_
        refine o_pull 3 ?_
        refine o_pull 1 ?_
        refine o_fuse ?_
        refine o_val rfl rfl rfl (y_add rfl rfl (by simp only [inK]; omega)) ?_
        refine o_val rfl rfl rfl (y_move (v := (.int _ _)) rfl) ?_
        refine o_nil ?_
        exact ⟨LB4.mk (g.cs ++ [(newC ((l.getD ((n : Nat) : Int).toNat default).cs.getD ((g.cs.length : Nat) : Int).toNat default).kind vB ((l.getD ((n : Nat) : Int).toNat default).cs.getD ((g.cs.length : Nat) : Int).toNat default).n ve ((l.getD ((n : Nat) : Int).toNat default).cs.getD ((g.cs.length : Nat) : Int).toNat default).vs)]) A8 c9 E10 (vG ++ g.P), (by simp only [List.length_append, List.length_singleton]; omega), ⟨by simp only [List.length_append, List.length_singleton]; omega, by dsimp only; rw [List.length_append]; exact ho13, all_snoc (fun y hy => (hcx y hy).sub inG_right) (cok_new hvo hccb), take_map_next (d := default) (by omega) hcd rfl⟩, ⟨(congrArg (Value.int .i64) (by simp only [List.length_append, List.length_singleton]; omega)), rfl, rfl, rfl, rfl, rfl, rfl, rfl, rfl, rfl, trivial⟩, (by dsimp only; rw [List.length_append]; exact sub_picks [1, 1, 0] rfl)⟩
      · refine o_fn 0 (d := 43) rfl Try.call93 (CloneI_c ((l.getD ((n : Nat) : Int).toNat default).cs.getD ((g.cs.length : Nat) : Int).toNat default).A ((l.getD ((n : Nat) : Int).toNat default).cs.getD ((g.cs.length : Nat) : Int).toNat default).n ((l.getD ((n : Nat) : Int).toNat default).cs.getD ((g.cs.length : Nat) : Int).toNat default).c ((l.getD ((n : Nat) : Int).toNat default).cs.getD ((g.cs.length : Nat) : Int).toNat default).vs (hcc.2.2.2.here.down) hcc.1 (by have := hcc.2.2.1; omega)) rfl ?_
        rintro _ _ ⟨vB, ve, vG, rfl, hvo, rfl⟩
        refine o_nil ?_
        refine d_val (i := 7) rfl (by kernel_rfl) (by kernel_rfl) (by kernel_rfl) rfl rfl rfl (y_build (vs := [(0, .int _ _), (1, .slice _ _ _)]) rfl (Build0_k1 _ _ _ _)) ?_
        refine d_eff2 (k := 1) (k' := 8) (n := 3) (m := 2) rfl rfl (by kernel_rfl) rfl ?_ ?_
        · refine o_val rfl rfl rfl (y_load Try.isAgg33 rfl (cel_own 1 rfl rfl)) ?_
          refine o_nil ?_
          refine d_eff (k := 8) (n := 3) (m := 2) rfl (by kernel_rfl) rfl ?_
          refine o_lit (vs := [(0, .agg #[.int _ _, .slice _ _ _])]) rfl rfl (Build0_k2 _ _ _ _) (fun b14 => ?_)
          refine o_nil ?_
          refine d_eff (k := 9) (n := 3) (m := 2) rfl (by kernel_rfl) rfl ?_
          refine o_append (sz := 2) (bytes := 32) (news := [(.int _ _), (.slice _ _ _)]) 2 rfl Try.underlying33 Try.type155 rfl rfl rfl rfl rfl hco rfl rfl (Src.slice Try.underlying33 (cels_own 5 rfl rfl) rfl (by simp [Value.oneCell']) (by simp)) (by omega) (fun A15 c16 E17 ho18 hn19 => ?_)
          have ho20 : OS A15 (g.cs.length + 1) c16 155 2 ((g.cs ++ [(newC ((l.getD ((n : Nat) : Int).toNat default).cs.getD ((g.cs.length : Nat) : Int).toNat default).kind vB ((l.getD ((n : Nat) : Int).toNat default).cs.getD ((g.cs.length : Nat) : Int).toNat default).n ve ((l.getD ((n : Nat) : Int).toNat default).cs.getD ((g.cs.length : Nat) : Int).toNat default).vs)]).flatMap encC) E17 := os_snoc ho18 rfl
          clear ho18
          refine o_nil ?_
          refine d_val (i := 10) rfl (by kernel_rfl) (by kernel_rfl) (by kernel_rfl) rfl rfl rfl (y_field0 Try.runUnderlying35 rfl Try.sizeOf33 rfl rfl) ?_
          refine d_eff (k := 11) (n := 3) (m := 2) rfl (by kernel_rfl) rfl ?_
          refine o_store (v := (.slice _ _ _)) 1 rfl Try.sizeOf33 rfl rfl rfl rfl ?_
          refine o_nil ?_
          refine d_nil (n := 3) (m := 2) (by kernel_rfl) rfl ?_
          refine s_norm [_, [(_, .cells [(.slice _ _ _), (.slice _ _ _)].toArray 35 (0, 0))], _, _, [(_, .cells [(.int _ _), (.slice _ _ _)].toArray 155 (0, 0))], [(_, .cells [(.int _ _), (.slice _ _ _)].toArray 155 (0, 0))]] rfl ?_
          refine s_forget [(0, (.slice _ _ _)), (1, (.slice _ _ _)), (2, (.int _ _)), (3, (.slice _ _ _)), (8, (.slice _ _ _)), (9, (.int _ _)), (10, (.pointer _)), (31, (.slice _ _ _)), (32, (.int _ _)), (33, (.int _ _))] ⟨rfl, rfl, rfl, rfl, rfl, rfl, rfl, rfl, rfl, rfl, trivial⟩ (fun _f => ?_)
          refine s_region ?_
          refine o_pull 3 ?_
          refine o_pull 1 ?_
          refine o_fuse ?_
          refine o_val rfl rfl rfl (y_add rfl rfl (by simp only [inK]; omega)) ?_
          refine o_val rfl rfl rfl (y_move (v := (.int _ _)) rfl) ?_
          refine o_nil ?_
          exact ⟨LB4.mk (g.cs ++ [(newC ((l.getD ((n : Nat) : Int).toNat default).cs.getD ((g.cs.length : Nat) : Int).toNat default).kind vB ((l.getD ((n : Nat) : Int).toNat default).cs.getD ((g.cs.length : Nat) : Int).toNat default).n ve ((l.getD ((n : Nat) : Int).toNat default).cs.getD ((g.cs.length : Nat) : Int).toNat default).vs)]) A15 c16 E17 (vG ++ g.P), (by simp only [List.length_append, List.length_singleton]; omega), ⟨by simp only [List.length_append, List.length_singleton]; omega, by dsimp only; rw [List.length_append]; exact ho20, all_snoc (fun y hy => (hcx y hy).sub inG_right) (cok_new hvo hccb), take_map_next (d := default) (by omega) hcd rfl⟩, ⟨(congrArg (Value.int .i64) (by simp only [List.length_append, List.length_singleton]; omega)), rfl, rfl, rfl, rfl, rfl, rfl, rfl, rfl, rfl, trivial⟩, (by dsimp only; rw [List.length_append]; exact sub_picks [1, 1, 0] rfl)⟩
        · refine o_lit (vs := [(0, .agg #[.int _ _, .slice _ _ _])]) rfl rfl (Build0_k2 _ _ _ _) (fun b21 => ?_)
          refine o_nil ?_
          refine d_now (i := 1) [] rfl (by kernel_rfl) (by kernel_rfl) (by kernel_rfl) rfl rfl rfl (y_load Try.isAgg33 rfl (cel_own 1 rfl rfl)) trivial ?_
          refine d_eff (k := 9) (n := 3) (m := 2) rfl (by kernel_rfl) rfl ?_
          refine o_append (sz := 2) (bytes := 32) (news := [(.int _ _), (.slice _ _ _)]) 2 rfl Try.underlying33 Try.type155 rfl rfl rfl rfl rfl hco rfl rfl (Src.slice Try.underlying33 (cels_own 5 rfl rfl) rfl (by simp [Value.oneCell']) (by simp)) (by omega) (fun A22 c23 E24 ho25 hn26 => ?_)
          have ho27 : OS A22 (g.cs.length + 1) c23 155 2 ((g.cs ++ [(newC ((l.getD ((n : Nat) : Int).toNat default).cs.getD ((g.cs.length : Nat) : Int).toNat default).kind vB ((l.getD ((n : Nat) : Int).toNat default).cs.getD ((g.cs.length : Nat) : Int).toNat default).n ve ((l.getD ((n : Nat) : Int).toNat default).cs.getD ((g.cs.length : Nat) : Int).toNat default).vs)]).flatMap encC) E24 := os_snoc ho25 rfl
          clear ho25
          refine o_nil ?_
          refine d_val (i := 10) rfl (by kernel_rfl) (by kernel_rfl) (by kernel_rfl) rfl rfl rfl (y_field0 Try.runUnderlying35 rfl Try.sizeOf33 rfl rfl) ?_
          refine d_eff (k := 11) (n := 3) (m := 2) rfl (by kernel_rfl) rfl ?_
          refine o_store (v := (.slice _ _ _)) 1 rfl Try.sizeOf33 rfl rfl rfl rfl ?_
          refine o_nil ?_
          refine d_nil (n := 3) (m := 2) (by kernel_rfl) rfl ?_
          refine s_norm [_, [(_, .cells [(.slice _ _ _), (.slice _ _ _)].toArray 35 (0, 0))], _, _, [(_, .cells [(.int _ _), (.slice _ _ _)].toArray 155 (0, 0))], [(_, .cells [(.int _ _), (.slice _ _ _)].toArray 155 (0, 0))]] rfl ?_
          refine s_forget [(0, (.slice _ _ _)), (1, (.slice _ _ _)), (2, (.int _ _)), (3, (.slice _ _ _)), (8, (.slice _ _ _)), (9, (.int _ _)), (10, (.pointer _)), (31, (.slice _ _ _)), (32, (.int _ _)), (33, (.int _ _))] ⟨rfl, rfl, rfl, rfl, rfl, rfl, rfl, rfl, rfl, rfl, trivial⟩ (fun _f => ?_)
          refine s_region ?_
          refine o_pull 3 ?_
          refine o_pull 1 ?_
          refine o_fuse ?_
          refine o_val rfl rfl rfl (y_add rfl rfl (by simp only [inK]; omega)) ?_
          refine o_val rfl rfl rfl (y_move (v := (.int _ _)) rfl) ?_
          refine o_nil ?_
          exact ⟨LB4.mk (g.cs ++ [(newC ((l.getD ((n : Nat) : Int).toNat default).cs.getD ((g.cs.length : Nat) : Int).toNat default).kind vB ((l.getD ((n : Nat) : Int).toNat default).cs.getD ((g.cs.length : Nat) : Int).toNat default).n ve ((l.getD ((n : Nat) : Int).toNat default).cs.getD ((g.cs.length : Nat) : Int).toNat default).vs)]) A22 c23 E24 (vG ++ g.P), (by simp only [List.length_append, List.length_singleton]; omega), ⟨by simp only [List.length_append, List.length_singleton]; omega, by dsimp only; rw [List.length_append]; exact ho27, all_snoc (fun y hy => (hcx y hy).sub inG_right) (cok_new hvo hccb), take_map_next (d := default) (by omega) hcd rfl⟩, ⟨(congrArg (Value.int .i64) (by simp only [List.length_append, List.length_singleton]; omega)), rfl, rfl, rfl, rfl, rfl, rfl, rfl, rfl, rfl, trivial⟩, (by dsimp only; rw [List.length_append]; exact sub_picks [1, 1, 0] rfl)⟩
    · refine s_exit ?_
      refine s_seq ?_
      refine s_region ?_
      refine o_val rfl rfl rfl (y_loads (cs := [_, _]) Try.isAgg35 Try.sizeOf35 rfl rfl rfl (cels_own 0 rfl rfl)) ?_
      refine o_lit (vs := [(0, .agg #[.slice _ _ _, .slice _ _ _])]) rfl rfl (Build0_k3 _ _ _ _ _ _) (fun b28 => ?_)
      refine o_val rfl rfl rfl (y_assign (v := (.slice _ _ _)) rfl) ?_
      refine o_nil ?_
      refine s_forget [(0, (.slice _ _ _)), (1, (.slice _ _ _)), (2, (.int _ _)), (3, (.slice _ _ _)), (8, (.slice _ _ _)), (9, (.int _ _)), (13, (.slice _ _ _))] ⟨rfl, rfl, rfl, rfl, rfl, rfl, rfl, trivial⟩ (fun _f => ?_)
      refine s_seq ?_
      refine s_seq ?_
      refine s_region ?_
      refine o_val rfl rfl rfl (y_move (v := (.slice _ _ _)) rfl) ?_
      refine o_val rfl rfl rfl (y_move (v := (.int _ _)) rfl) ?_
      refine o_val rfl rfl rfl (y_indexAddr Try.runUnderlying25 Try.sizeOf38 (some_at (sz := 1) encPf_len (i := 0) hl.2.2.2.1 (by omega)) rfl rfl (by omega)) ?_
      refine o_val rfl rfl rfl (y_fieldX (F := 1) Try.runUnderlying38 rfl Try.sizeOf36 rfl (some_at (sz := 1) encPf_len (i := 0) hl.2.2.2.1 (by omega)) rfl) ?_
      refine o_val rfl rfl rfl (y_load Try.isAgg36 rfl ((cels_at (sz := 2) encPf_len hl.2.2.2.1.here (by omega)).cel' (i := 1) rfl)) ?_
      refine o_val rfl rfl rfl (y_len Try.runUnderlying36 rfl) ?_
      refine o_val rfl rfl rfl (y_move (v := (.int _ _)) rfl) ?_
      refine o_nil ?_
      refine s_block ?_
      have hgl : g.cs.length = (l.getD ((n : Nat) : Int).toNat default).cn := by omega
      rw [hgl, ← hpcl, List.take_length] at hcd
      refine s_pull 1 ?_
      refine s_oneF ?_
      refine s_loopK (γ := LO4) [(0, (.slice _ _ _)), (1, (.slice _ _ _)), (3, (.slice _ _ _)), (55, (.slice _ _ _)), (56, (.int _ _))] [] (fun h => [(13, .slice h.A h.bs.length h.c), (57, .int .i64 h.k)]) (fun h => [h.E, h.gs.flatten, h.P]) (fun h => h.k ≤ (l.getD ((n : Nat) : Int).toNat default).pn ∧ OS h.A h.bs.length h.c 35 2 ((h.bs).flatMap encB) h.E ∧ BsOK ks (inG h.P) h.bs h.gs ∧ h.bs.map BR.d = rawTo ks (l.map PfR.d) n h.k) (fun h => (l.getD ((n : Nat) : Int).toNat default).pn - h.k) (LO4.mk 0 [(BR.mk none 0 0 [] g.A g.cs.length g.c g.cs)] [g.E] (some ⟨b28, 0, none⟩) 1 [(b28, .cells [.slice none 0 0, .slice g.A g.cs.length g.c].toArray 35 (0, 0))] g.P) ⟨rfl, rfl, rfl, rfl, rfl, rfl, rfl, trivial⟩ (sub_picks [3, 0, 1] rfl) ?_ ?_
      · exact ⟨Nat.zero_le _, OS.lit (sz := 2) (n := 1) rfl (by decide), BsOK.one ⟨⟨rfl, Nat.le_refl _, Nat.zero_le _, Cels.nil⟩, hco, hcx, held_d (hh n (Nat.le_refl _)) hcd, rfl, by dsimp only; omega⟩, by rw [rawTo_0P]; exact congrArg (fun z => [(([] : List Int), z)]) hcd⟩
      intro h _f hJ
      refine s_norm _ (by simp only [pull, picks, setG, List.cons_append, List.nil_append, List.append_nil, List.drop_succ_cons, List.drop_zero]; rfl) ?_
      obtain ⟨hgk, hoo, hbo, hbd⟩ := hJ
      refine s_seq ?_
      refine s_region ?_
      refine o_val rfl rfl rfl (y_lss rfl rfl) ?_
      refine o_nil ?_
      refine s_seq ?_
      refine s_if rfl (fun h29 => ?_) (fun h30 => ?_)
      · refine s_skip ?_
        refine s_seq ?_
        refine s_block ?_
        refine s_seq ?_
        refine s_region ?_
        refine o_val rfl rfl rfl (y_move (v := (.int _ _)) rfl) ?_
        refine o_val rfl rfl rfl (y_indexAddr Try.runUnderlying36 Try.sizeOf41 (some_at (sz := 1) encPa_len (i := 0) hpf.2.2.2.2.1 (by omega)) rfl rfl (by omega)) ?_
        refine o_val rfl rfl rfl (y_loads (cs := [_, _]) Try.isAgg41 Try.sizeOf41 rfl (by unfold idx; rw [Option.isSome_map]; exact some_at (sz := 1) encPa_len (i := 0) hpf.2.2.2.2.1 (by omega)) rfl (cels_at (sz := 2) encPa_len hpf.2.2.2.2.1.here (by omega))) ?_
        refine o_alloc rfl Try.zeroValue41 rfl (fun b31 => ?_)
        refine o_val rfl rfl rfl (y_assign (v := (.int _ _)) rfl) ?_
        refine o_stores (vs := [(.int _ _), (.slice _ _ _)]) 3 rfl Try.sizeOf41 rfl rfl rfl (by simp [Value.oneCell']) (by simp) ?_
        refine o_nil ?_
        refine s_norm [_, _, _, [(_, .cells [(.int _ _), (.slice _ _ _)].toArray 41 (0, 0))]] rfl ?_
        refine s_seq ?_
        refine s_region ?_
        have hqk := good_at (ks := ks) (hg n (Nat.le_refl _)) (show h.k < (l.getD ((n : Nat) : Int).toNat default).ps.length by omega)
        obtain ⟨hq0, hq1, hq2, bu, hub⟩ := hqk
        have hqo := hpf.2.2.2.2.2 _ (getD_mem' (show h.k < (l.getD ((n : Nat) : Int).toNat default).ps.length by omega) : ((l.getD ((n : Nat) : Int).toNat default).ps.getD ((h.k : Nat) : Int).toNat default) ∈ (l.getD ((n : Nat) : Int).toNat default).ps)
        have hq0' : 0 ≤ ((l.getD ((n : Nat) : Int).toNat default).ps.getD ((h.k : Nat) : Int).toNat default).of := hq0
        have hq1' : ((l.getD ((n : Nat) : Int).toNat default).ps.getD ((h.k : Nat) : Int).toNat default).of < n := hq1
        have hq2' : ((l.getD ((n : Nat) : Int).toNat default).ps.getD ((h.k : Nat) : Int).toNat default).os.length ≤ 40 := hq2
        have hres : resV ks (l.map PfR.d) ((l.getD ((n : Nat) : Int).toNat default).ps.getD ((h.k : Nat) : Int).toNat default).of.toNat (((l.getD ((n : Nat) : Int).toNat default).ps.getD ((h.k : Nat) : Int).toNat default).os.map OvR.d) = useV ks (l.map PfR.d) ((l.getD ((n : Nat) : Int).toNat default).ps.getD ((h.k : Nat) : Int).toNat default).d := if_neg (by rw [List.length_map]; omega)
        refine o_val rfl rfl rfl (y_move (v := (.slice _ _ _)) rfl) ?_
        refine o_val rfl rfl rfl (y_move (v := (.slice _ _ _)) rfl) ?_
        refine o_val rfl rfl rfl (y_field0 Try.runUnderlying41 rfl Try.sizeOf3 rfl rfl) ?_
        refine o_val rfl rfl rfl (y_load Try.isAgg3 rfl (cel_own 3 rfl rfl)) ?_
        refine o_val rfl rfl rfl (y_field0 Try.runUnderlying41 rfl Try.sizeOf39 rfl rfl) ?_
        refine o_val rfl rfl rfl (y_load Try.isAgg39 rfl (cel_own 3 rfl rfl)) ?_
        refine o_fn 0 (d := 69) rfl Try.call89 (ih ((l.getD ((n : Nat) : Int).toNat default).ps.getD ((h.k : Nat) : Int).toNat default).of.toNat (by omega) A nK cK ks (hks.sub MSub.ext) hck lA ln lc l (hl.sub MSub.ext) (fun i hi => hg i (by omega)) (fun i hi => hh i (by omega)) (by omega) (by omega) ((l.getD ((n : Nat) : Int).toNat default).ps.getD ((h.k : Nat) : Int).toNat default).of (by omega) ((l.getD ((n : Nat) : Int).toNat default).ps.getD ((h.k : Nat) : Int).toNat default).A ((l.getD ((n : Nat) : Int).toNat default).ps.getD ((h.k : Nat) : Int).toNat default).n ((l.getD ((n : Nat) : Int).toNat default).ps.getD ((h.k : Nat) : Int).toNat default).c ((l.getD ((n : Nat) : Int).toNat default).ps.getD ((h.k : Nat) : Int).toNat default).os (OsOK.sub hqo MSub.ext)) rfl ?_
        rintro _ _ (⟨e, hx, he, rfl, rfl⟩ | ⟨bs', gs', B', bn', C', E', P', hx, rfl, hbn, ho', hb', rfl⟩)
        · exact absurd (hx.symm.trans (hres.trans hub)) (by simp)
        · have hux : useV ks (l.map PfR.d) ((l.getD ((n : Nat) : Int).toNat default).ps.getD ((h.k : Nat) : Int).toNat default).d = .ok (bs'.map BR.d) := hres.symm.trans hx
          have h15 := rawTo_15P hg hn3 (k := h.k + 1) (show h.k + 1 ≤ (l.getD ((n : Nat) : Int).toNat default).ps.length by omega)
          rw [rawTo_stepP (k := h.k) (hg n (Nat.le_refl _)) (show h.k < (l.getD n default).ps.length from (show h.k < (l.getD ((n : Nat) : Int).toNat default).ps.length by omega)) hux, ← hbd, List.length_append, List.length_map, List.length_map, List.length_map] at h15
          have hbp := raw_pathP (l := l) (n := ((l.getD ((n : Nat) : Int).toNat default).ps.getD ((h.k : Nat) : Int).toNat default).of.toNat) (fun i hi => hg i (by omega)) rfl hux
          have hgl' := hb'.1
          refine o_val rfl rfl rfl (y_move (v := (.tuple #[(.slice _ _ _), (.int _ _)])) rfl) ?_
          refine o_val rfl rfl rfl (y_extract (v := (.slice _ _ _)) rfl rfl) ?_
          refine o_val rfl rfl rfl (y_extract (v := (.int _ _)) rfl rfl) ?_
          refine o_val rfl rfl rfl (y_assign (v := (.slice _ _ _)) rfl) ?_
          refine o_val rfl rfl rfl (y_assign (v := (.int _ _)) rfl) ?_
          refine o_nil ?_
          refine s_forget [(0, (.slice _ _ _)), (1, (.slice _ _ _)), (3, (.slice _ _ _)), (13, (.slice _ _ _)), (14, (.int _ _)), (16, (.slice _ _ _)), (17, (.int _ _)), (55, (.slice _ _ _)), (56, (.int _ _)), (57, (.int _ _))] ⟨rfl, rfl, rfl, rfl, rfl, rfl, rfl, rfl, rfl, rfl, trivial⟩ (fun _f => ?_)
          refine s_seq ?_
          refine s_seq ?_
          refine s_region ?_
          refine o_val rfl rfl rfl (y_move (v := (.int _ _)) rfl) ?_
          refine o_val rfl rfl rfl (y_neq rfl rfl) ?_
          refine o_nil ?_
          refine s_if rfl (fun h32 => ?_) (fun h33 => ?_)
          · exact absurd rfl h32
          · refine s_skip ?_
            refine s_seq ?_
            refine s_seq ?_
            refine s_region ?_
            refine o_val rfl rfl rfl (y_move (v := (.slice _ _ _)) rfl) ?_
            refine o_val rfl rfl rfl (y_len Try.runUnderlying28 rfl) ?_
            refine o_val rfl rfl rfl (y_move (v := (.int _ _)) rfl) ?_
            refine o_nil ?_
            refine s_block ?_
            refine s_pull 5 ?_
            refine s_pull 3 ?_
            refine s_fuse ?_
            refine s_loopK (γ := LI4) [(0, (.slice _ _ _)), (1, (.slice _ _ _)), (3, (.slice _ _ _)), (14, (.int _ _)), (55, (.slice _ _ _)), (56, (.int _ _)), (57, (.int _ _)), (75, (.slice _ _ _)), (76, (.int _ _))] [_, _, _] (fun v => [(13, .slice v.A v.bs.length v.c), (77, .int .i64 v.j)]) (fun v => [v.E, v.P]) (fun v => v.j ≤ bn' ∧ OS v.A v.bs.length v.c 35 2 ((v.bs).flatMap encB) v.E ∧ BsOK ks (inG v.P) v.bs (h.gs ++ gs'.take v.j) ∧ v.bs.map BR.d = rawTo ks (l.map PfR.d) n h.k ++ ((bs'.map BR.d).take v.j).map (preV (h.k : Nat)) ∧ MSub (inG (P' ++ h.P)) (inG v.P) ∧ v.bs.length = h.bs.length + v.j) (fun v => bn' - v.j) (LI4.mk 0 h.bs h.A h.c h.E (P' ++ h.P)) ⟨rfl, rfl, rfl, rfl, rfl, rfl, rfl, rfl, rfl, rfl, rfl, trivial⟩ (sub_picks [3, 0, 0, 0, 0] rfl) ?_ ?_
            · exact ⟨Nat.zero_le _, hoo, by rw [List.take_zero, List.append_nil]; exact hbo.sub inG_right, by rw [List.take_zero, List.map_nil, List.append_nil]; exact hbd, MSub.refl, rfl⟩
            intro v _f hV
            refine s_norm _ (by simp only [pull, picks, setG, List.cons_append, List.nil_append, List.append_nil, List.drop_succ_cons, List.drop_zero]; rfl) ?_
            obtain ⟨hvj, hvo2, hvb, hvd, hvm, hvl⟩ := hV
            refine s_seq ?_
            refine s_region ?_
            refine o_val rfl rfl rfl (y_lss rfl rfl) ?_
            refine o_nil ?_
            refine s_seq ?_
            refine s_if rfl (fun h34 => ?_) (fun h35 => ?_)
            · refine s_skip ?_
              refine s_seq ?_
              refine s_block ?_
              refine s_seq ?_
              refine s_region ?_
              refine o_val rfl rfl rfl (y_indexAddr Try.runUnderlying28 Try.sizeOf35 (ho'.some_of (by omega)) rfl rfl (by omega)) ?_
              refine o_val rfl rfl rfl (y_loads (cs := [_, _]) Try.isAgg35 Try.sizeOf35 rfl (by unfold idx; rw [Option.isSome_map]; exact ho'.some_of (by omega)) rfl (cels_at (sz := 2) encB_len (ho'.cels (j := 2) rfl) (by omega))) ?_
              refine o_alloc rfl Try.zeroValue35 rfl (fun b36 => ?_)
              refine o_stores (vs := [(.slice _ _ _), (.slice _ _ _)]) 5 rfl Try.sizeOf35 rfl rfl rfl (by simp [Value.oneCell']) (by simp) ?_
              refine o_nil ?_
              refine s_seq ?_
              refine s_region ?_
              have hyb : BOK ks (inG P') (gs'.getD v.j []) (bs'.getD ((v.j : Nat) : Int).toNat default) := hb'.2 v.j (by omega)
              have hyp : (bs'.getD ((v.j : Nat) : Int).toNat default).ps.length ≤ 3 := by have := hbp _ (List.mem_map.2 ⟨_, getD_mem' (show v.j < bs'.length by omega), rfl⟩ : BR.d (bs'.getD ((v.j : Nat) : Int).toNat default) ∈ bs'.map BR.d); exact Nat.le_trans this (by omega)
              have hypl := hyb.1.1
              refine o_val rfl rfl rfl (y_move (v := (.int _ _)) rfl) ?_
              refine o_lit (vs := [(0, .int _ _)]) rfl rfl (Build0_k4 _) (fun b37 => ?_)
              refine o_val rfl rfl rfl (y_field0 Try.runUnderlying35 rfl Try.sizeOf22 rfl rfl) ?_
              refine o_val rfl rfl rfl (y_load Try.isAgg22 rfl (cel_own 5 rfl rfl)) ?_
              refine o_append (sz := 1) (bytes := 8) (news := _) 6 rfl Try.underlying22 Try.type3 rfl rfl rfl rfl rfl (OS.lit (sz := 1) (n := 1) rfl (by decide)) rfl rfl (Src.rd (sz := 0) Try.underlying22 (((hyb.1.sub (inG_left.trans hvm)).2.2.2).ms (inG_ext (j := 1) rfl)).up (by rw [List.length_map, hypl]; omega) (one_int _ _)) (by omega) (fun A38 c39 E40 ho41 hn42 => ?_)
              have ho43 : OS A38 (1 + (bs'.getD ((v.j : Nat) : Int).toNat default).pn) c39 3 1 ((((h.k : Nat) : Int) :: (bs'.getD ((v.j : Nat) : Int).toNat default).ps).map (.int .i64)) E40 := (os_eq ho41 rfl)
              clear ho41
              refine o_val rfl rfl rfl (y_field0 Try.runUnderlying35 rfl Try.sizeOf22 rfl rfl) ?_
              refine o_store (v := (.slice _ _ _)) 5 rfl Try.sizeOf22 rfl rfl rfl rfl ?_
              refine o_nil ?_
              refine s_norm [_, _, _, _, _, [(_, .cells [(.slice _ _ _), (.slice _ _ _)].toArray 35 (0, 0))], _] rfl ?_
              refine s_region ?_
              refine o_val rfl rfl rfl (y_move (v := (.slice _ _ _)) rfl) ?_
              refine o_val rfl rfl rfl (y_loads (cs := [_, _]) Try.isAgg35 Try.sizeOf35 rfl rfl rfl (cels_own 5 rfl rfl)) ?_
              refine o_lit (vs := [(0, .agg #[.slice _ _ _, .slice _ _ _])]) rfl rfl (Build0_k3 _ _ _ _ _ _) (fun b44 => ?_)
              refine o_append (sz := 2) (bytes := 48) (news := [(.slice _ _ _), (.slice _ _ _)]) 0 rfl Try.underlying28 Try.type35 rfl rfl rfl rfl rfl hvo2 rfl rfl (Src.slice Try.underlying28 (cels_own 7 rfl rfl) rfl (by simp [Value.oneCell']) (by simp)) (by omega) (fun A45 c46 E47 ho48 hn49 => ?_)
              have ho50 : OS A45 (v.bs.length + 1) c46 35 2 ((v.bs ++ [(BR.mk A38 (1 + (bs'.getD ((v.j : Nat) : Int).toNat default).pn) c39 (((h.k : Nat) : Int) :: (bs'.getD ((v.j : Nat) : Int).toNat default).ps) (bs'.getD ((v.j : Nat) : Int).toNat default).cA (bs'.getD ((v.j : Nat) : Int).toNat default).cn (bs'.getD ((v.j : Nat) : Int).toNat default).cc (bs'.getD ((v.j : Nat) : Int).toNat default).cs)]).flatMap encB) E47 := os_snoc ho48 rfl
              clear ho48
              refine o_val rfl rfl rfl (y_assign (v := (.slice _ _ _)) rfl) ?_
              refine o_nil ?_
              refine s_norm [_, _, _, _, _, [(_, .cells [(.slice _ _ _), (.slice _ _ _)].toArray 35 (0, 0))], _, [(_, .cells [(.slice _ _ _), (.slice _ _ _)].toArray 35 (0, 0))]] rfl ?_
              refine s_region ?_
              refine o_pull 1 ?_
              refine o_pull 6 ?_
              refine o_fuse ?_
              refine o_val rfl rfl rfl (y_add rfl rfl (by simp only [inK]; omega)) ?_
              refine o_val rfl rfl rfl (y_move (v := (.int _ _)) rfl) ?_
              refine o_nil ?_
              exact ⟨LI4.mk (v.j + 1) (v.bs ++ [(BR.mk A38 (1 + (bs'.getD ((v.j : Nat) : Int).toNat default).pn) c39 (((h.k : Nat) : Int) :: (bs'.getD ((v.j : Nat) : Int).toNat default).ps) (bs'.getD ((v.j : Nat) : Int).toNat default).cA (bs'.getD ((v.j : Nat) : Int).toNat default).cn (bs'.getD ((v.j : Nat) : Int).toNat default).cc (bs'.getD ((v.j : Nat) : Int).toNat default).cs)]) A45 c46 E47 (E40 ++ v.P), (by dsimp only; omega), ⟨by dsimp only; omega, by dsimp only; rw [List.length_append]; exact ho50, by dsimp only; rw [take_next (d := []) (show v.j < gs'.length by omega), ← List.append_assoc]; exact (hvb.sub inG_right).snoc ⟨⟨by dsimp only; rw [List.length_cons, hyb.1.1]; omega, (ho43).2.1, by dsimp only; omega, (ho43).mem.ms inG_left⟩, hyb.2.1, fun x hx => (hyb.2.2.1 x hx).sub ((inG_left.trans hvm).trans inG_right), hyb.2.2.2⟩, by dsimp only; rw [List.map_append, hvd, take_next (ys := bs'.map BR.d) (d := default) (by rw [List.length_map]; omega), List.map_append, List.append_assoc, bget]; rfl, hvm.trans inG_right, by dsimp only; rw [List.length_append, List.length_singleton, hvl]; omega⟩, ⟨(by dsimp only; rw [List.length_append]; rfl), (congrArg (Value.int .i64) (by (try dsimp only); omega)), rfl, rfl, rfl, rfl, rfl, rfl, rfl, rfl, rfl, trivial⟩, (sub_picks [1, 0, 0, 0, 0] rfl)⟩
            · refine s_exit ?_
              refine s_seq ?_
              refine s_region ?_
              refine o_val rfl rfl rfl (y_move (v := (.slice _ _ _)) rfl) ?_
              refine o_val rfl rfl rfl (y_len Try.runUnderlying28 rfl) ?_
              refine o_val rfl rfl rfl (y_gtr rfl rfl) ?_
              refine o_nil ?_
              refine s_forget [(0, (.slice _ _ _)), (1, (.slice _ _ _)), (3, (.slice _ _ _)), (13, (.slice _ _ _)), (55, (.slice _ _ _)), (56, (.int _ _)), (57, (.int _ _)), (94, (.bool _))] ⟨rfl, rfl, rfl, rfl, rfl, rfl, rfl, rfl, trivial⟩ (fun _f => ?_)
              refine s_if rfl (fun h51 => ?_) (fun h52 => ?_)
              · exfalso; omega
              · refine s_skip ?_
                refine s_region ?_
                refine o_pull 3 ?_
                refine o_pull 4 ?_
                refine o_fuseF ?_
                refine o_val rfl rfl rfl (y_add rfl rfl (by simp only [inK]; omega)) ?_
                refine o_val rfl rfl rfl (y_move (v := (.int _ _)) rfl) ?_
                refine o_nil ?_
                exact ⟨LO4.mk (h.k + 1) v.bs (h.gs ++ gs') v.A v.c v.E v.P, (by first | omega | (dsimp only; omega)), ⟨by dsimp only; omega, hvo2, by rw [show v.j = gs'.length by omega, List.take_length] at hvb; exact hvb, by rw [show v.j = (bs'.map BR.d).length by rw [List.length_map]; omega, List.take_length] at hvd; rw [hvd, rawTo_stepP (k := h.k) (hg n (Nat.le_refl _)) (show h.k < (l.getD n default).ps.length from (show h.k < (l.getD ((n : Nat) : Int).toNat default).ps.length by omega)) hux]⟩, ⟨rfl, (congrArg (Value.int .i64) (by (try dsimp only); omega)), rfl, rfl, rfl, rfl, rfl, trivial⟩, (sub_picks [1, 0, 0] rfl)⟩
      · refine s_exit ?_
        refine s_seq ?_
        refine s_seq ?_
        refine s_region ?_
        refine o_val rfl rfl rfl (y_move (v := (.slice _ _ _)) rfl) ?_
        refine o_val rfl rfl rfl (y_len Try.runUnderlying39 rfl) ?_
        refine o_val rfl rfl rfl (y_move (v := (.int _ _)) rfl) ?_
        refine o_nil ?_
        refine s_block ?_
        have hbd2 : h.bs.map BR.d = rawV ks (l.map PfR.d) n := by rw [rawV_P]; exact hbd.trans (congrArg (rawTo ks (l.map PfR.d) n) (show h.k = (l.getD n default).ps.length from (show h.k = (l.getD ((n : Nat) : Int).toNat default).ps.length by omega)))
        have h15 : (rawV ks (l.map PfR.d) n).length ≤ 15 := by rw [rawV_P]; exact rawTo_15P hg hn3 (Nat.le_refl _)
        rw [← hbd2, List.length_map] at h15
        refine s_loopK (γ := LV4) [(0, (.slice _ _ _)), (13, (.slice _ _ _)), (96, (.slice _ _ _)), (97, (.int _ _))] [_] (fun u => [(98, .int .i64 u.k)]) (fun u => [u.gs.flatten, u.P]) (fun u => u.k ≤ on ∧ u.bs.flatMap encB = h.bs.flatMap encB ∧ u.bs.length = h.bs.length ∧ BsOK ks (inG u.P) u.bs u.gs ∧ oversV ks (rawV ks (l.map PfR.d) n) ((os.map OvR.d).take u.k) = .ok (u.bs.map BR.d)) (fun u => on - u.k) (LV4.mk 0 h.bs h.gs h.P) ⟨rfl, rfl, rfl, rfl, rfl, trivial⟩ (sub_picks [1, 1, 0] rfl) ?_ ?_
        · exact ⟨Nat.zero_le _, rfl, rfl, hbo, by rw [hbd2]; rfl⟩
        intro u _f hU
        refine s_norm _ (by simp only [pull, picks, setG, List.cons_append, List.nil_append, List.append_nil, List.drop_succ_cons, List.drop_zero]; rfl) ?_
        obtain ⟨huk, huf, hul, hub2, huo⟩ := hU
        refine s_seq ?_
        refine s_region ?_
        refine o_val rfl rfl rfl (y_lss rfl rfl) ?_
        refine o_nil ?_
        refine s_seq ?_
        refine s_if rfl (fun h53 => ?_) (fun h54 => ?_)
        · refine s_skip ?_
          refine s_seq ?_
          refine s_block ?_
          refine s_seq ?_
          refine s_region ?_
          refine o_val rfl rfl rfl (y_indexAddr Try.runUnderlying39 Try.sizeOf147 (some_at (sz := 3) encOv_len (i := 0) hos.2.2.2.1 (by omega)) rfl rfl (by omega)) ?_
          refine o_val rfl rfl rfl (y_loads (cs := [_, _, _, _]) Try.isAgg147 Try.sizeOf147 rfl (by unfold idx; rw [Option.isSome_map]; exact some_at (sz := 3) encOv_len (i := 0) hos.2.2.2.1 (by omega)) rfl (cels_at (sz := 4) encOv_len hos.2.2.2.1.here (by omega))) ?_
          refine o_alloc rfl Try.zeroValue147 rfl (fun b55 => ?_)
          refine o_stores (vs := [(.slice _ _ _), (.int _ _), (.int _ _), (.int _ _)]) 3 rfl Try.sizeOf147 rfl rfl rfl (by simp [Value.oneCell']) (by simp) ?_
          refine o_nil ?_
          refine s_norm [_, _, _, [(_, .cells [(.slice _ _ _), (.int _ _), (.int _ _), (.int _ _)].toArray 147 (0, 0))]] rfl ?_
          refine s_seq ?_
          refine s_region ?_
          have hoo2 := hos.2.2.2.2 _ (getD_mem' (show u.k < os.length by omega) : (os.getD ((u.k : Nat) : Int).toNat default) ∈ os)
          refine o_val rfl rfl rfl (y_move (v := (.slice _ _ _)) rfl) ?_
          refine o_val rfl rfl rfl (y_move (v := (.slice _ _ _)) rfl) ?_
          refine o_val rfl rfl rfl (y_loads (cs := [_, _, _, _]) Try.isAgg147 Try.sizeOf147 rfl rfl rfl (cels_own 3 rfl rfl)) ?_
          refine o_fn 1 (d := 105) rfl Try.call149 (Over_c (M := inG u.P) (inG_ext (j := 0) rfl) A nK cK ks (hks.sub MSub.ext) h.A h.bs.length h.c u.bs (huf ▸ (hoo.cels (j := 1) rfl).down) hul (by omega) u.gs hub2 (os.getD ((u.k : Nat) : Int).toNat default) (OvOK.sub hoo2 MSub.ext)) rfl ?_
          rintro _ _ (⟨e, hov, he, rfl, rfl⟩ | ⟨bs2, gs2, vG2, hov, rfl, hf2, hb2, rfl⟩)
          · refine o_val rfl rfl rfl (y_assign (v := (.int _ _)) rfl) ?_
            refine o_nil ?_
            refine s_forget [(0, (.slice _ _ _)), (13, (.slice _ _ _)), (22, (.int _ _)), (96, (.slice _ _ _)), (97, (.int _ _)), (98, (.int _ _))] ⟨rfl, rfl, rfl, rfl, rfl, rfl, trivial⟩ (fun _f => ?_)
            refine s_seq ?_
            refine s_region ?_
            refine o_val rfl rfl rfl (y_move (v := (.int _ _)) rfl) ?_
            refine o_val rfl rfl rfl (y_neq rfl rfl) ?_
            refine o_nil ?_
            refine s_if rfl (fun h56 => ?_) (fun h57 => ?_)
            · refine s_seq ?_
              refine s_region ?_
              refine o_val rfl rfl rfl (y_move (v := (.int _ _)) rfl) ?_
              refine o_val rfl rfl rfl (y_assign (v := (.slice _ _ _)) rfl) ?_
              refine o_val rfl rfl rfl (y_assign (v := (.int _ _)) rfl) ?_
              refine o_nil ?_
              refine s_ret ?_
              exact ⟨_, [], res2 rfl rfl rfl, .inl ⟨e, (if_neg (by rw [List.length_map]; omega)).trans (overs_bad (show u.k < os.length by omega) huo hov), he, rfl, rfl⟩, sub_picks [] rfl⟩
            · exact absurd (Decidable.not_not.1 h57) he
          · refine o_val rfl rfl rfl (y_assign (v := (.int _ _)) rfl) ?_
            refine o_nil ?_
            refine s_forget [(0, (.slice _ _ _)), (13, (.slice _ _ _)), (22, (.int _ _)), (96, (.slice _ _ _)), (97, (.int _ _)), (98, (.int _ _))] ⟨rfl, rfl, rfl, rfl, rfl, rfl, trivial⟩ (fun _f => ?_)
            refine s_seq ?_
            refine s_region ?_
            refine o_pull 2 ?_
            refine o_pull 2 ?_
            refine o_fuse ?_
            refine o_val rfl rfl rfl (y_move (v := (.int _ _)) rfl) ?_
            refine o_val rfl rfl rfl (y_neq rfl rfl) ?_
            refine o_nil ?_
            refine s_if rfl (fun h58 => ?_) (fun h59 => ?_)
            · exact absurd rfl h58
            · refine s_skip ?_
              refine s_region ?_
              refine o_val rfl rfl rfl (y_add rfl rfl (by simp only [inK]; omega)) ?_
              refine o_val rfl rfl rfl (y_move (v := (.int _ _)) rfl) ?_
              refine o_nil ?_
              exact ⟨LV4.mk (u.k + 1) bs2 gs2 (vG2 ++ u.P), (by first | omega | (dsimp only; omega)), ⟨by dsimp only; omega, hf2.trans huf, by have := (overV_len hov).1; rw [List.length_map, List.length_map] at this; exact this.trans hul, hb2.sub (fun b o hb => hb.elim (fun hb => inG_right b o hb) (fun hb => inG_left b o hb)), overs_next (show u.k < os.length by omega) huo hov⟩, ⟨(congrArg (Value.int .i64) (by (try dsimp only); omega)), rfl, rfl, rfl, rfl, trivial⟩, (sub_picks [1, 0, 0] rfl)⟩
        · refine s_exit ?_
          refine s_seq ?_
          refine s_region ?_
          refine o_val rfl rfl rfl (y_move (v := (.slice _ _ _)) rfl) ?_
          refine o_val rfl rfl rfl (y_assign (v := (.slice _ _ _)) rfl) ?_
          refine o_val rfl rfl rfl (y_assign (v := (.int _ _)) rfl) ?_
          refine o_nil ?_
          refine s_ret ?_
          have huk2 : u.k = (os.map OvR.d).length := by rw [List.length_map]; omega
          rw [huk2, List.take_length] at huo
          exact ⟨_, [_, _, _], res2 rfl rfl rfl, .inr ⟨u.bs, u.gs, _, _, _, _, u.P, (if_neg (by rw [List.length_map]; omega)).trans huo, rfl, hul, huf ▸ hoo, hub2, rfl⟩, sub_picks [2, 0, 0] rfl⟩

end Go.Proofs.Ytacmbiohjiogiaa.K
