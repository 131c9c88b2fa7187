/- Walks over the package tourref4: the reference's templates built. No condition beyond what each statement names. -/
import Derived.Test.YtacmbiohjiogiaaProg
import Derived.Test.YtacmbiohjiogiaaK14
import Derived.Test.YtacmbiohjiogiaaK19
import Derived.Test.YtacmbiohjiogiaaM1
import Derived.Test.YtacmbiohjiogiaaM2
import Derived.Test.YtacmbiohjiogiaaW1
import Derived.Test.YtacmbiohjiogiaaW2
import Derived.Test.YtacmbiohjiogiaaW3
import Derived.Test.YtacmbiohjiogiaaW4
import Derived.Test.YtacmbiohjiogiaaW5
import Derived.Test.YtacmbiohjiogiaaW6
import Derived.Test.YtacmbiohjiogiaaW7
import Derived.Test.YtacmbiohjiogiaaX1
import Derived.Test.YtacmbiohjiogiaaP1
import Derived.Test.YtacmbiohjiogiaaP2
import Derived.Test.YtacmbiohjiogiaaP3
import Derived.Test.YtacmbiohjiogiaaP4
import Derived.Test.YtacmbiohjiogiaaP5
import Derived.Test.YtacmbiohjiogiaaP6
import Derived.Test.YtacmbiohjiogiaaP7
import Derived.Test.YtacmbiohjiogiaaP8
import Derived.Test.YtacmbiohjiogiaaP10
import Derived.Test.YtacmbiohjiogiaaP11
set_option linter.unusedVariables false
set_option linter.unusedSimpArgs false
set_option maxRecDepth 100000
set_option maxHeartbeats 2000000
namespace Go.Proofs.Ytacmbiohjiogiaa.K
open Go.RowKit

theorem o_snocF {P : Program} {N : Nat} {w0 : World} {V : Mem} {Q : Exit → Frm → List Grp → Prop} {f : Frm} {R : List Grp} {ops : Array Oper} {rest : List Oper} {gs : List Grp} {E : Grp} (h : opsS P N w0 V ops Q rest f ((gs ++ [E]).flatten :: R)) : opsS P N w0 V ops Q rest f (gs.flatten :: E :: R) :=
  o_sub _ (fun _ hw => hw.perm (by simp)) h
theorem s_take2 {P : Program} {N : Nat} {w0 : World} {V : Mem} {Q : Exit → Frm → List Grp → Prop} {f : Frm} {R : List Grp} {c : Code} {gs vg : List Grp} (i j : Nat) (hi : i < gs.length) (hv : gs.getD i [] = vg.flatten) (hj : j < vg.length) (h : wpS P N w0 V c Q f (vg.getD j [] :: outG vg j :: outG gs i :: R)) : wpS P N w0 V c Q f (gs.flatten :: R) :=
  s_takeG i hi (by rw [hv]; exact s_takeG j hj h)
theorem o_put2 {P : Program} {N : Nat} {w0 : World} {V : Mem} {Q : Exit → Frm → List Grp → Prop} {f : Frm} {R : List Grp} {ops : Array Oper} {rest : List Oper} {gs vg : List Grp} (i j : Nat) (hi : i < gs.length) (hj : j < vg.length) {E : Grp} (h : opsS P N w0 V ops Q rest f ((gs.set i (vg.set j E).flatten).flatten :: R)) : opsS P N w0 V ops Q rest f (E :: outG vg j :: outG gs i :: R) :=
  o_putG j hj (o_putG i hi h)
/-- A component whose values lie in a group of their own. -/
def COKo (E : Grp) (c : CR) : Prop := OS c.A c.n c.c 3 1 (c.vs.map (.int .i64)) E ∧ c.n ≤ 1000
def VOK (cs : List CR) (E : Grp) : Prop := ∃ vg : List Grp, E = vg.flatten ∧ vg.length = cs.length ∧ ∀ j, j < cs.length → COKo (vg.getD j []) (cs.getD j default)
/-- An entity whose values can be changed. -/
def BOKr (ks : List KR) (M : Mem) (E : Grp) (b : BR) : Prop := PthOK M b ∧ (b.cs.length = b.cn ∧ b.cn ≤ b.cc ∧ b.cn ≤ 1000 ∧ Cels M [] b.cA (b.cs.flatMap encC)) ∧ VOK b.cs E ∧ heldP ks b.cs
def BsOKr (ks : List KR) (M : Mem) (bs : List BR) (gs : List Grp) : Prop := bs.length = gs.length ∧ ∀ j, j < bs.length → BOKr ks M (gs.getD j []) (bs.getD j default)
theorem BOKr.sub {ks : List KR} {M M' : Mem} {E : Grp} {b : BR} (h : BOKr ks M E b) (hm : MSub M M') : BOKr ks M' E b := ⟨h.1.sub hm, ⟨h.2.1.1, h.2.1.2.1, h.2.1.2.2.1, h.2.1.2.2.2.ms hm⟩, h.2.2⟩
theorem BsOKr.sub {ks : List KR} {M M' : Mem} {bs : List BR} {gs : List Grp} (h : BsOKr ks M bs gs) (hm : MSub M M') : BsOKr ks M' bs gs := ⟨h.1, fun j hj => (h.2 j hj).sub hm⟩
theorem BsOKr.snoc {ks : List KR} {M : Mem} {bs : List BR} {gs : List Grp} {b : BR} {E : Grp} (h : BsOKr ks M bs gs) (hb : BOKr ks M E b) : BsOKr ks M (bs ++ [b]) (gs ++ [E]) := ⟨by simp [h.1], fun j hj => by
  have hl := h.1
  rw [List.length_append, List.length_singleton] at hj
  rw [getD_snoc hj, getD_snoc (by omega)]
  by_cases e : j = bs.length
  · rw [if_pos e, if_pos (by omega)]; exact hb
  · rw [if_neg e, if_neg (by omega)]; exact h.2 j (by omega)⟩
theorem BsOKr.set {ks : List KR} {M : Mem} {bs : List BR} {gs : List Grp} {b : BR} {E : Grp} {i : Nat} (h : BsOKr ks M bs gs) (hi : i < bs.length) (hb : BOKr ks M E b) : BsOKr ks M (bs.set i b) (gs.set i E) := ⟨by simp [h.1], fun j hj => by
  have hl := h.1
  rw [List.length_set] at hj
  rw [getD_set' hi, getD_set' (by omega)]
  by_cases e : j = i
  · rw [if_pos e, if_pos e]; exact hb
  · rw [if_neg e, if_neg e]; exact h.2 j hj⟩
theorem BsOKr.one {ks : List KR} {M : Mem} {b : BR} {E : Grp} (h : BOKr ks M E b) : BsOKr ks M [b] [E] := ⟨rfl, fun j hj => by
  have : j = 0 := by simp at hj; omega
  subst this; exact h⟩
theorem flatC_same {cs : List CR} {j : Nat} {vs : List Int} : (cs.set j (newC (cs.getD j default).kind (cs.getD j default).A (cs.getD j default).n (cs.getD j default).c vs)).flatMap encC = cs.flatMap encC := by
  by_cases hj : j < cs.length
  · have e1 : cs = cs.take j ++ (cs.getD j default :: cs.drop (j + 1)) := by
      rw [getD_at hj, List.getElem_cons_drop, List.take_append_drop]
    rw [List.set_eq_take_append_cons_drop, if_pos hj]
    conv => rhs; rw [e1]
    simp only [List.flatMap_append, List.flatMap_cons]; rfl
  · rw [List.set_eq_of_length_le (by omega)]
/-- An entity with one value changed in its place. -/
theorem BOKr.put {ks : List KR} {M : Mem} {E0 : Grp} {b : BR} (h : BOKr ks M E0 b) {vg : List Grp} (hv : vg.length = b.cs.length) (hc : ∀ j, j < b.cs.length → COKo (vg.getD j []) (b.cs.getD j default)) {j : Nat} (hj : j < b.cs.length) {E : Grp} {vs : List Int}
    (ho : OS (b.cs.getD j default).A (b.cs.getD j default).n (b.cs.getD j default).c 3 1 (vs.map (.int .i64)) E) (hh : holdsV (ks.getD (b.cs.getD j default).kind.toNat default) vs) :
    BOKr ks M (vg.set j E).flatten (b.put (b.cs.set j (newC (b.cs.getD j default).kind (b.cs.getD j default).A (b.cs.getD j default).n (b.cs.getD j default).c vs))) :=
  ⟨h.1, ⟨by dsimp only [BR.put]; rw [List.length_set]; exact h.2.1.1, h.2.1.2.1, h.2.1.2.2.1, by dsimp only [BR.put]; rw [flatC_same]; exact h.2.1.2.2.2⟩, ⟨vg.set j E, rfl, by dsimp only [BR.put]; rw [List.length_set, List.length_set]; exact hv, fun i hi => by
    dsimp only [BR.put] at hi ⊢
    rw [List.length_set] at hi
    rw [getD_set' (by omega), getD_set' hj]
    split
    · exact ⟨ho, (hc j hj).2⟩
    · exact hc i hi⟩, held_set h.2.2.2 hj rfl hh⟩
/-- Does a replacement mean this component of this entity? -/
def hitB (b : BV) (o : OV) (j : Nat) : Prop := b.1 = o.1 ∧ (b.2.getD j default).1 = o.2.1 ∧ 0 ≤ o.2.2.1 ∧ o.2.2.1 < ((b.2.getD j default).2.length : Nat)
theorem over_none {ks : List KR} {bs : List BV} {o : OV} (h : ∀ i, i < bs.length → ∀ j, j < (bs.getD i default).2.length → ¬ hitB (bs.getD i default) o j) : overV ks bs o = .error 4 := by
  unfold overV
  split
  · rfl
  · rename_i i hi
    have hi' := List.findIdx?_eq_some_iff_getElem.1 hi
    split
    · rfl
    · rename_i j hj
      have hj' := List.findIdx?_eq_some_iff_getElem.1 hj
      split
      · rfl
      · rename_i hf
        have h1 : (bs.getD i default).1 = o.1 := by have := hi'.2.1; rw [getD_at hi'.1]; simpa using this
        have h2 : ((bs.getD i default).2.getD j default).1 = o.2.1 := by have := hj'.2.1; rw [getD_at hj'.1]; simpa using this
        exact absurd ⟨h1, h2, by omega, by omega⟩ (h i hi'.1 j hj'.1)
/-- How far a replacement has come. -/
def statO (ks : List KR) (st : List BV) (o : OV) (i j : Nat) (d : Int) (cur : List BV) : Prop :=
  (d = 4 ∧ cur = st ∧ (∀ a, a < i → ∀ b, b < (st.getD a default).2.length → ¬ hitB (st.getD a default) o b) ∧ ∀ b, b < j → ¬ hitB (st.getD i default) o b) ∨
  (d = 0 ∧ overV ks st o = .ok cur ∧ ∃ a b, (a < i ∨ (a = i ∧ b < j)) ∧ a < st.length ∧ b < (st.getD a default).2.length ∧ hitB (st.getD a default) o b)
theorem stat_miss {ks : List KR} {st cur : List BV} {o : OV} {i j : Nat} {d : Int} (h : statO ks st o i j d cur) (hm : ¬ hitB (st.getD i default) o j) : statO ks st o i (j + 1) d cur := by
  rcases h with ⟨h1, h2, h3, h4⟩ | ⟨h1, h2, a, b, h3, h4⟩
  · exact .inl ⟨h1, h2, h3, fun b hb => by
      by_cases e : b = j
      · rw [e]; exact hm
      · exact h4 b (by omega)⟩
  · exact .inr ⟨h1, h2, a, b, by omega, h4⟩
theorem stat_row {ks : List KR} {st cur : List BV} {o : OV} {i j : Nat} {d : Int} (h : statO ks st o i j d cur) (hj : j = (st.getD i default).2.length) : statO ks st o (i + 1) 0 d cur := by
  rcases h with ⟨h1, h2, h3, h4⟩ | ⟨h1, h2, a, b, h3, h4⟩
  · exact .inl ⟨h1, h2, fun a ha b hb => by
      by_cases e : a = i
      · rw [e] at hb ⊢; exact h4 b (by omega)
      · exact h3 a (by omega) b hb, fun b hb => absurd hb (Nat.not_lt_zero b)⟩
  · exact .inr ⟨h1, h2, a, b, by omega, h4⟩
/-- There is one hit at most. -/
theorem hit_one {ks : List KR} {st : List BV} {o : OV} (hu : upP (st.map Prod.fst)) (hg : ∀ i, i < st.length → goodV ks (st.getD i default).2) {a b i j : Nat} (ha : a < st.length) (hb : b < (st.getD a default).2.length) (hi : i < st.length) (hj : j < (st.getD i default).2.length) (h1 : hitB (st.getD a default) o b) (h2 : hitB (st.getD i default) o j) : a = i ∧ b = j := by
  have e1 : a = i := by
    rcases Nat.lt_trichotomy a i with h | h | h
    · exact absurd (h1.1.trans h2.1.symm) (up_diff hu h hi)
    · exact h
    · exact absurd (h2.1.trans h1.1.symm) (up_diff hu h ha)
  subst e1
  refine ⟨rfl, ?_⟩
  rcases Nat.lt_trichotomy b j with h | h | h
  · have := (hg a ha).1 b j h hj; have e := h1.2.1.trans h2.2.1.symm; omega
  · exact h
  · have := (hg a ha).1 j b h hb; have e := h1.2.1.trans h2.2.1.symm; omega
theorem stat_hit {ks : List KR} {st cur : List BV} {o : OV} {i j : Nat} {d : Int} (h : statO ks st o i j d cur) (hu : upP (st.map Prod.fst)) (hg : ∀ i, i < st.length → goodV ks (st.getD i default).2) (hi : i < st.length) (hj : j < (st.getD i default).2.length) (hh : hitB (st.getD i default) o j) : cur = st ∧ pIdx st o.1 = some i ∧ cIdx (st.getD i default).2 o.2.1 = some j := by
  refine ⟨?_, pIdx_at hi hh.1 (fun a ha e => up_diff hu ha hi (e.trans hh.1.symm)), cIdx_at hj hh.2.1 (fun b hb e => by have := (hg i hi).1 b j hb hj; have e2 := e.trans hh.2.1.symm; omega)⟩
  rcases h with ⟨_, h2, _⟩ | ⟨_, _, a, b, h3, h4, h5, h6⟩
  · exact h2
  · have := hit_one hu hg h4 h5 hi hj h6 hh
    omega
theorem stat_end {ks : List KR} {st cur : List BV} {o : OV} {d : Int} (h : statO ks st o st.length 0 d cur) : (d = 4 ∧ overV ks st o = .error 4) ∨ (d = 0 ∧ overV ks st o = .ok cur) := by
  rcases h with ⟨h1, _, h3, _⟩ | ⟨h1, h2, _⟩
  · exact .inl ⟨h1, over_none h3⟩
  · exact .inr ⟨h1, h2⟩
structure LR14 where
  cs : List CR
  A : Option Addr
  c : Nat
  E : Grp
  vg : List Grp
structure LX14 where
  i : Nat
  d : Int
  bs : List BR
  gs : List Grp
theorem take_all {α : Type} {l : List α} {n : Nat} (h : n = l.length) : l.take n = l := by rw [h, List.take_length]

theorem RCopyC_k0 (v0 : Int) (v1A : Option Addr) (v1n : Nat) (v1c : Nat) (w : World) : (Instr.build 155 ([(0, (.int .i64 v0)), (1, (.slice v1A v1n v1c))] : List (Nat × Value)).toArray).run Try.prog w = .ok (.agg #[.int .i64 v0, .slice v1A v1n v1c]) w := by kernel_rfl
theorem RCopyC_k1 (v0x0 : Int) (v0x1A : Option Addr) (v0x1n : Nat) (v0x1c : Nat) (w : World) : (Instr.buildSlice 33 1 ([(0, (.agg #[(.int .i64 v0x0), (.slice v0x1A v0x1n v0x1c)]))] : List (Nat × Value)).toArray).run Try.prog w = .ok (.slice (some ⟨w.heap.size, 0, none⟩) 1 1) { w with heap := w.heap.push (.cells ([.int .i64 v0x0, .slice v0x1A v0x1n v0x1c] : List Value).toArray 155 (0, 0)) } := by kernel_rfl
theorem RCopyC_c {V : Mem} (ks : List KR) (hck : ckErr ks = 0) (A : Option Addr) (n c : Nat) (cs : List CR) (hcs : CsOK V A n c cs) (hh : heldP ks cs) : CallS Try.prog 144 [.slice A n c].toArray V [] (fun r L' => ∃ (A' : Option Addr) (c' : Nat) (cs' : List CR) (E : Grp) (vg : List Grp), r = .slice A' cs'.length c' ∧ OS A' cs'.length c' 155 2 ((cs').flatMap encC) E ∧ vg.length = cs'.length ∧ (∀ j, j < cs'.length → COKo (vg.getD j []) (cs'.getD j default)) ∧ cs'.map CR.d = cs.map CR.d ∧ L' = [E, vg.flatten]) := by
  have hcl := hcs.1
  have hcb := hcs.2.2.1
  have h16 := held_len hck hh
  refine callS Try.func144 rfl rfl (fun w0 => ?_)
  refine s_seq ?_
  refine s_region ?_
  refine o_val rfl rfl rfl (y_assign (v := (.slice _ _ _)) rfl) ?_
  refine o_nil ?_
  refine s_seq ?_
  refine s_region ?_
  refine o_val rfl rfl rfl (y_assign (v := (.slice _ _ _)) rfl) ?_
  refine o_nil ?_
  refine s_seq ?_
  refine s_seq ?_
  refine s_region ?_
  refine o_val rfl rfl rfl (y_move (v := (.slice _ _ _)) rfl) ?_
  refine o_val rfl rfl rfl (y_len Try.runUnderlying33 rfl) ?_
  refine o_val rfl rfl rfl (y_move (v := (.int _ _)) rfl) ?_
  refine o_nil ?_
  refine s_block ?_
  refine s_group ?_
  refine s_group ?_
  refine s_loopK (γ := LR14) [(2, (.slice _ _ _)), (6, (.slice _ _ _)), (7, (.int _ _))] [] (fun g => [(3, .slice g.A g.cs.length g.c), (8, .int .i64 g.cs.length)]) (fun g => [g.E, g.vg.flatten]) (fun g => g.cs.length ≤ n ∧ OS g.A g.cs.length g.c 155 2 ((g.cs).flatMap encC) g.E ∧ g.vg.length = g.cs.length ∧ (∀ j, j < g.cs.length → COKo (g.vg.getD j []) (g.cs.getD j default)) ∧ g.cs.map CR.d = (cs.take g.cs.length).map CR.d) (fun g => n - g.cs.length) (LR14.mk [] none 0 [] []) ⟨rfl, rfl, rfl, rfl, rfl, trivial⟩ (sub_picks [0, 0] rfl) ?_ ?_
  · exact ⟨Nat.zero_le _, OS.nil _ _, rfl, fun j hj => absurd hj (Nat.not_lt_zero j), rfl⟩
  intro g _f hI
  refine s_norm _ (by simp only [pull, picks, setG, List.cons_append, List.nil_append, List.append_nil, List.drop_succ_cons, List.drop_zero]; rfl) ?_
  obtain ⟨hgk, hco, hvl, hvc, hcd⟩ := hI
  refine s_seq ?_
  refine s_region ?_
  refine o_val rfl rfl rfl (y_lss rfl rfl) ?_
  refine o_nil ?_
  refine s_seq ?_
  refine s_if rfl (fun h1 => ?_) (fun h2 => ?_)
  · refine s_skip ?_
    refine s_seq ?_
    refine s_block ?_
    refine s_seq ?_
    refine s_region ?_
    refine o_val rfl rfl rfl (y_indexAddr Try.runUnderlying33 Try.sizeOf155 (some_at (sz := 1) encC_len (i := 0) hcs.2.2.2.1 (by omega)) rfl rfl (by omega)) ?_
    refine o_val rfl rfl rfl (y_loads (cs := [_, _]) Try.isAgg155 Try.sizeOf155 rfl (by unfold idx; rw [Option.isSome_map]; exact some_at (sz := 1) encC_len (i := 0) hcs.2.2.2.1 (by omega)) rfl (cels_at (sz := 2) encC_len hcs.2.2.2.1.here (by omega))) ?_
    have hcc := hcs.2.2.2.2 _ (getD_mem' (show g.cs.length < cs.length by omega) : (cs.getD ((g.cs.length : Nat) : Int).toNat default) ∈ cs)
    have hn8 : (cs.getD ((g.cs.length : Nat) : Int).toNat default).n ≤ 1000 := by have h1 := holds_fits (hh g.cs.length (by omega)).2.2; have h2 := (oneErr_zero h1.1).2.1; have h3 := h1.2.1; have h4 : (cs.getD g.cs.length default).vs.length = (cs.getD ((g.cs.length : Nat) : Int).toNat default).n := hcc.1; omega
    refine o_alloc rfl Try.zeroValue155 rfl (fun b3 => ?_)
    refine o_stores (vs := [(.int _ _), (.slice _ _ _)]) 2 rfl Try.sizeOf155 rfl rfl rfl (by simp [Value.oneCell']) (by simp) ?_
    refine o_nil ?_
    refine s_drawn 1 (by kernel_rfl) ?_
    refine d_val (i := 0) rfl (by kernel_rfl) (by kernel_rfl) (by kernel_rfl) rfl rfl rfl (y_move (v := (.slice _ _ _)) rfl) ?_
    refine d_val (i := 1) rfl (by kernel_rfl) (by kernel_rfl) (by kernel_rfl) rfl rfl rfl (y_field0 Try.runUnderlying155 rfl Try.sizeOf3 rfl rfl) ?_
    refine d_val (i := 2) rfl (by kernel_rfl) (by kernel_rfl) (by kernel_rfl) rfl rfl rfl (y_load Try.isAgg3 rfl (cel_own 1 rfl rfl)) ?_
    refine d_val (i := 3) rfl (by kernel_rfl) (by kernel_rfl) (by kernel_rfl) rfl rfl rfl (y_field0 Try.runUnderlying155 rfl Try.sizeOf22 rfl rfl) ?_
    refine d_val (i := 4) rfl (by kernel_rfl) (by kernel_rfl) (by kernel_rfl) rfl rfl rfl (y_load Try.isAgg22 rfl (cel_own 1 rfl rfl)) ?_
    refine d_eff (k := 5) (n := 1) (m := 2) rfl (by kernel_rfl) rfl ?_
    refine o_fn 0 (d := 17) rfl Try.call93 (CloneI_c (cs.getD ((g.cs.length : Nat) : Int).toNat default).A (cs.getD ((g.cs.length : Nat) : Int).toNat default).n (cs.getD ((g.cs.length : Nat) : Int).toNat default).c (cs.getD ((g.cs.length : Nat) : Int).toNat default).vs hcc.2.2.2.here.down hcc.1 (by have := hcc.2.2.1; omega)) rfl ?_
    rintro _ _ ⟨vB, ve, vG, rfl, hvo, rfl⟩
    refine o_nil ?_
    refine d_val (i := 6) rfl (by kernel_rfl) (by kernel_rfl) (by kernel_rfl) rfl rfl rfl (y_build (vs := [(0, .int _ _), (1, .slice _ _ _)]) rfl (RCopyC_k0 _ _ _ _)) ?_
    refine d_eff (k := 7) (n := 2) (m := 2) rfl (by kernel_rfl) rfl ?_
    refine o_lit (vs := [(0, .agg #[.int _ _, .slice _ _ _])]) rfl rfl (RCopyC_k1 _ _ _ _) (fun b4 => ?_)
    refine o_nil ?_
    refine d_eff (k := 8) (n := 2) (m := 2) rfl (by kernel_rfl) rfl ?_
    refine o_append (sz := 2) (bytes := 32) (news := [(.int _ _), (.slice _ _ _)]) 1 rfl Try.underlying33 Try.type155 rfl rfl rfl rfl rfl hco rfl rfl (Src.slice Try.underlying33 (cels_own 4 rfl rfl) rfl (by simp [Value.oneCell']) (by simp)) (by omega) (fun A5 c6 E7 ho8 hn9 => ?_)
    have ho10 : OS A5 (g.cs.length + 1) c6 155 2 ((g.cs ++ [(newC (cs.getD ((g.cs.length : Nat) : Int).toNat default).kind vB (cs.getD ((g.cs.length : Nat) : Int).toNat default).n ve (cs.getD ((g.cs.length : Nat) : Int).toNat default).vs)]).flatMap encC) E7 := os_snoc ho8 rfl
    clear ho8
    refine o_nil ?_
    refine d_val (i := 9) rfl (by kernel_rfl) (by kernel_rfl) (by kernel_rfl) rfl rfl rfl (y_assign (v := (.slice _ _ _)) rfl) ?_
    refine d_nil (n := 2) (m := 2) (by kernel_rfl) rfl ?_
    refine s_norm [_, _, _, [(_, .cells [(.int _ _), (.slice _ _ _)].toArray 155 (0, 0))], [(_, .cells [(.int _ _), (.slice _ _ _)].toArray 155 (0, 0))]] rfl ?_
    refine s_forget [(2, (.slice _ _ _)), (3, (.slice _ _ _)), (6, (.slice _ _ _)), (7, (.int _ _)), (8, (.int _ _))] ⟨rfl, rfl, rfl, rfl, rfl, trivial⟩ (fun _f => ?_)
    refine s_region ?_
    refine o_pull 2 ?_
    refine o_snocF ?_
    refine o_val rfl rfl rfl (y_add rfl rfl (by simp only [inK]; omega)) ?_
    refine o_val rfl rfl rfl (y_move (v := (.int _ _)) rfl) ?_
    refine o_nil ?_
    exact ⟨LR14.mk (g.cs ++ [(newC (cs.getD ((g.cs.length : Nat) : Int).toNat default).kind vB (cs.getD ((g.cs.length : Nat) : Int).toNat default).n ve (cs.getD ((g.cs.length : Nat) : Int).toNat default).vs)]) A5 c6 E7 (g.vg ++ [vG]), (by simp only [List.length_append, List.length_singleton]; omega), ⟨by simp only [List.length_append, List.length_singleton]; omega, by dsimp only; rw [List.length_append]; exact ho10, by simp only [List.length_append, List.length_singleton]; omega, fun j hj => by dsimp only at hj ⊢; rw [List.length_append, List.length_singleton] at hj; rw [getD_snoc (by omega), getD_snoc hj]; by_cases e : j = g.cs.length; (· rw [if_pos (by omega), if_pos e]; exact ⟨hvo, hn8⟩); (· rw [if_neg (by omega), if_neg e]; exact hvc j (by omega)), take_map_next (d := default) (by omega) hcd rfl⟩, ⟨(by dsimp only; rw [List.length_append]; rfl), (congrArg (Value.int .i64) (by simp only [List.length_append, List.length_singleton]; omega)), rfl, rfl, rfl, trivial⟩, (sub_picks [1, 0] rfl)⟩
  · refine s_exit ?_
    refine s_seq ?_
    refine s_region ?_
    refine o_val rfl rfl rfl (y_move (v := (.slice _ _ _)) rfl) ?_
    refine o_val rfl rfl rfl (y_assign (v := (.slice _ _ _)) rfl) ?_
    refine o_nil ?_
    refine s_ret ?_
    exact ⟨_, [_, _], res1 rfl rfl, ⟨_, _, g.cs, _, g.vg, rfl, hco, hvl, hvc, by rw [hcd, take_all (show g.cs.length = cs.length by omega)], rfl⟩, sub_picks [0, 0] rfl⟩

theorem overV_lens {ks : List KR} {bs bs' : List BV} {o : OV} (h : overV ks bs o = .ok bs') (i : Nat) : (bs'.getD i default).1 = (bs.getD i default).1 ∧ sameC2 (bs.getD i default).2 (bs'.getD i default).2 := by
  obtain ⟨_, h2, h3⟩ := form_at (overV_form h).1
  exact ⟨h2 i, h3 i⟩
/-- Whatever has been done: paths, kinds and numbers of values are the same. -/
theorem stat_same {ks : List KR} {st cur : List BV} {o : OV} {i j : Nat} {d : Int} (h : statO ks st o i j d cur) (a : Nat) : (cur.getD a default).1 = (st.getD a default).1 ∧ sameC2 (st.getD a default).2 (cur.getD a default).2 := by
  rcases h with ⟨_, rfl, _⟩ | ⟨_, h2, _⟩
  · exact ⟨rfl, rfl, fun j _ => ⟨rfl, rfl⟩⟩
  · exact overV_lens h2 a
theorem hit_same {ks : List KR} {st cur : List BV} {o : OV} {i j : Nat} {d : Int} (h : statO ks st o i j d cur) {a b : Nat} (hb : b < (st.getD a default).2.length) : hitB (st.getD a default) o b ↔ hitB (cur.getD a default) o b := by
  obtain ⟨h1, h2⟩ := stat_same h a
  obtain ⟨h3, h4⟩ := h2.2 b hb
  unfold hitB
  rw [h1, h3, h4]
theorem hit_rec {b : BR} {o : OvR} {j : Nat} : hitB b.d o.d j ↔ b.ps = o.ps ∧ (b.cs.getD j default).kind = o.kind ∧ 0 ≤ o.field ∧ o.field < ((b.cs.getD j default).vs.length : Nat) := by
  unfold hitB BR.d OvR.d
  simp only [cget]; rfl

theorem RBuild_k0 (v1A : Option Addr) (v1n : Nat) (v1c : Nat) (w : World) : (Instr.build 35 ([(1, (.slice v1A v1n v1c))] : List (Nat × Value)).toArray).run Try.prog w = .ok (.agg #[.slice none 0 0, .slice v1A v1n v1c]) w := by kernel_rfl
theorem RBuild_k1 (v0x0A : Option Addr) (v0x0n : Nat) (v0x0c : Nat) (v0x1A : Option Addr) (v0x1n : Nat) (v0x1c : Nat) (w : World) : (Instr.buildSlice 28 1 ([(0, (.agg #[(.slice v0x0A v0x0n v0x0c), (.slice v0x1A v0x1n v0x1c)]))] : List (Nat × Value)).toArray).run Try.prog w = .ok (.slice (some ⟨w.heap.size, 0, none⟩) 1 1) { w with heap := w.heap.push (.cells ([.slice v0x0A v0x0n v0x0c, .slice v0x1A v0x1n v0x1c] : List Value).toArray 35 (0, 0)) } := by kernel_rfl
theorem RBuild_k2 (v0 : Int) (w : World) : (Instr.buildSlice 22 1 ([(0, (.int .i64 v0))] : List (Nat × Value)).toArray).run Try.prog w = .ok (.slice (some ⟨w.heap.size, 0, none⟩) 1 1) { w with heap := w.heap.push (.cells ([.int .i64 v0] : List Value).toArray 3 (0, 0)) } := by kernel_rfl
theorem RBuild_k3 (v0A : Option Addr) (v0n : Nat) (v0c : Nat) (v1A : Option Addr) (v1n : Nat) (v1c : Nat) (w : World) : (Instr.buildSlice 178 2 ([(0, (.slice v0A v0n v0c)), (1, (.slice v1A v1n v1c))] : List (Nat × Value)).toArray).run Try.prog w = .ok (.slice (some ⟨w.heap.size, 0, none⟩) 2 2) { w with heap := w.heap.push (.cells ([.slice v0A v0n v0c, .slice v1A v1n v1c] : List Value).toArray 22 (0, 0)) } := by kernel_rfl
theorem RBuild_k4 (v0A : Option Addr) (v0n : Nat) (v0c : Nat) (v1A : Option Addr) (v1n : Nat) (v1c : Nat) (w : World) : (Instr.build 35 ([(0, (.slice v0A v0n v0c)), (1, (.slice v1A v1n v1c))] : List (Nat × Value)).toArray).run Try.prog w = .ok (.agg #[.slice v0A v0n v0c, .slice v1A v1n v1c]) w := by kernel_rfl
theorem RBuild_c (n : Nat) : ∀ {V : Mem} (A : Option Addr) (nK cK : Nat) (ks : List KR) (hks : KsOK V A nK cK ks) (hck : ckErr ks = 0) (lA : Option Addr) (ln lc : Nat) (l : List PfR) (hl : LsOK V lA ln lc l) (hg : ∀ i, i ≤ n → goodT ks (l.map PfR.d) i) (hh : ∀ i, i ≤ n → heldP ks (l.getD i default).cs) (hn : n < l.length) (hn3 : n ≤ 3) (z : Int) (hz : z = (n : Int)) (oA : Option Addr) (on oc : Nat) (os : List OvR) (hos : OsOK V oA on oc os), CallS Try.prog 63 [.slice A nK cK, .slice lA ln lc, .int .i64 z, .slice oA on oc].toArray V [] (fun r L' => (∃ e : Int, resV ks (l.map PfR.d) n (os.map OvR.d) = .error e ∧ e ≠ 0 ∧ r = .tuple #[.slice none 0 0, .int .i64 e] ∧ L' = []) ∨ (∃ (bs : List BR) (gs : List Grp) (bA : Option Addr) (bn bC : Nat) (E P : Grp), resV ks (l.map PfR.d) n (os.map OvR.d) = .ok (bs.map BR.d) ∧ r = .tuple #[.slice bA bn bC, .int .i64 0] ∧ bs.length = bn ∧ OS bA bn bC 35 2 ((bs).flatMap encB) E ∧ BsOKr ks (inG P) bs gs ∧ L' = [E, gs.flatten, P])) := by
  induction n using Nat.strongRecOn
  rename_i n ih
  intro V A nK cK ks hks hck lA ln lc l hl hg hh hn hn3 z hz oA on oc os hos
  subst hz
  have hpf := hl.2.2.2.2 _ (getD_mem' hn : (l.getD ((n : Nat) : Int).toNat default) ∈ l)
  have hpcl := hpf.1.1
  have hpl := hpf.2.1
  have hpb := hpf.2.2.2.1
  have hpcb := hpf.1.2.2.1
  have hll := hl.1
  have hlb := hl.2.2.1
  have hosl := hos.1
  have hosb := hos.2.2.1
  have hkl0 := hks.1
  have hcn16 : (l.getD ((n : Nat) : Int).toNat default).cn ≤ 1000 := by have := held_len hck (hh n (Nat.le_refl _)); have e : (l.getD n default).cs.length = (l.getD ((n : Nat) : Int).toNat default).cn := hpcl; omega
  refine callS Try.func63 rfl rfl (fun w0 => ?_)
  refine s_seq ?_
  refine s_region ?_
  refine o_val rfl rfl rfl (y_assign (v := (.slice _ _ _)) rfl) ?_
  refine o_val rfl rfl rfl (y_assign (v := (.int _ _)) rfl) ?_
  refine o_nil ?_
  refine s_seq ?_
  refine s_seq ?_
  refine s_region ?_
  refine o_val rfl rfl rfl (y_move (v := (.slice _ _ _)) rfl) ?_
  refine o_val rfl rfl rfl (y_len Try.runUnderlying39 rfl) ?_
  refine o_val rfl rfl rfl (y_gtr rfl rfl) ?_
  refine o_nil ?_
  refine s_if rfl (fun h1 => ?_) (fun h2 => ?_)
  · refine s_seq ?_
    refine s_region ?_
    refine o_val rfl rfl rfl (y_assign (v := (.slice _ _ _)) rfl) ?_
    refine o_val rfl rfl rfl (y_assign (v := (.int _ _)) rfl) ?_
    refine o_nil ?_
    refine s_ret ?_
    exact ⟨_, [], res2 rfl rfl rfl, .inl ⟨2, if_pos (by rw [List.length_map]; omega), by decide, rfl, rfl⟩, sub_picks [] rfl⟩
  · refine s_skip ?_
    refine s_seq ?_
    refine s_region ?_
    refine o_val rfl rfl rfl (y_move (v := (.slice _ _ _)) rfl) ?_
    refine o_val rfl rfl rfl (y_move (v := (.int _ _)) rfl) ?_
    refine o_val rfl rfl rfl (y_indexAddr Try.runUnderlying25 Try.sizeOf38 (some_at (sz := 1) encPf_len (i := 0) hl.2.2.2.1 (by omega)) rfl rfl (by omega)) ?_
    refine o_val rfl rfl rfl (y_fieldX (F := 0) Try.runUnderlying38 rfl Try.sizeOf33 rfl (some_at (sz := 1) encPf_len (i := 0) hl.2.2.2.1 (by omega)) rfl) ?_
    refine o_val rfl rfl rfl (y_load Try.isAgg33 rfl ((cels_at (sz := 2) encPf_len hl.2.2.2.1.here (by omega)).cel' (i := 0) rfl)) ?_
    refine o_fn 0 (d := 33) rfl Try.call144 (RCopyC_c ks hck (l.getD ((n : Nat) : Int).toNat default).cA (l.getD ((n : Nat) : Int).toNat default).cn (l.getD ((n : Nat) : Int).toNat default).cc (l.getD ((n : Nat) : Int).toNat default).cs (hpf.1.sub MSub.ext) (hh n (Nat.le_refl _))) rfl ?_
    rintro _ _ ⟨A0, c0, cs0, E0, vg0, rfl, hco, hv0l, hv0c, hcd, rfl⟩
    have hc0l : cs0.length = (l.getD ((n : Nat) : Int).toNat default).cn := by have := congrArg List.length hcd; rw [List.length_map, List.length_map] at this; omega
    refine o_val rfl rfl rfl (y_build (vs := [(1, .slice _ _ _)]) rfl (RBuild_k0 _ _ _)) ?_
    refine o_lit (vs := [(0, .agg #[.slice _ _ _, .slice _ _ _])]) rfl rfl (RBuild_k1 _ _ _ _ _ _) (fun b3 => ?_)
    refine o_val rfl rfl rfl (y_assign (v := (.slice _ _ _)) rfl) ?_
    refine o_nil ?_
    refine s_forget [(0, (.slice _ _ _)), (1, (.slice _ _ _)), (2, (.int _ _)), (3, (.slice _ _ _)), (8, (.slice _ _ _)), (9, (.int _ _)), (10, (.slice _ _ _))] ⟨rfl, rfl, rfl, rfl, rfl, rfl, rfl, trivial⟩ (fun _f => ?_)
    refine s_seq ?_
    refine s_seq ?_
    refine s_region ?_
    refine o_val rfl rfl rfl (y_move (v := (.slice _ _ _)) rfl) ?_
    refine o_val rfl rfl rfl (y_move (v := (.int _ _)) rfl) ?_
    refine o_val rfl rfl rfl (y_indexAddr Try.runUnderlying25 Try.sizeOf38 (some_at (sz := 1) encPf_len (i := 0) hl.2.2.2.1 (by omega)) rfl rfl (by omega)) ?_
    refine o_val rfl rfl rfl (y_fieldX (F := 1) Try.runUnderlying38 rfl Try.sizeOf36 rfl (some_at (sz := 1) encPf_len (i := 0) hl.2.2.2.1 (by omega)) rfl) ?_
    refine o_val rfl rfl rfl (y_load Try.isAgg36 rfl ((cels_at (sz := 2) encPf_len hl.2.2.2.1.here (by omega)).cel' (i := 1) rfl)) ?_
    refine o_val rfl rfl rfl (y_len Try.runUnderlying36 rfl) ?_
    refine o_val rfl rfl rfl (y_move (v := (.int _ _)) rfl) ?_
    refine o_nil ?_
    refine s_block ?_
    refine s_pull 1 ?_
    refine s_oneF ?_
    refine s_loopK (γ := LO4) [(0, (.slice _ _ _)), (1, (.slice _ _ _)), (3, (.slice _ _ _)), (40, (.slice _ _ _)), (41, (.int _ _))] [] (fun h => [(10, .slice h.A h.bs.length h.c), (42, .int .i64 h.k)]) (fun h => [h.E, h.gs.flatten, h.P]) (fun h => h.k ≤ (l.getD ((n : Nat) : Int).toNat default).pn ∧ OS h.A h.bs.length h.c 35 2 ((h.bs).flatMap encB) h.E ∧ BsOKr ks (inG h.P) h.bs h.gs ∧ h.bs.map BR.d = rawTo ks (l.map PfR.d) n h.k) (fun h => (l.getD ((n : Nat) : Int).toNat default).pn - h.k) (LO4.mk 0 [(BR.mk none 0 0 [] A0 cs0.length c0 cs0)] [vg0.flatten] (some ⟨b3, 0, none⟩) 1 [(b3, .cells [.slice none 0 0, .slice A0 cs0.length c0].toArray 35 (0, 0))] E0) ⟨rfl, rfl, rfl, rfl, rfl, rfl, rfl, trivial⟩ (sub_picks [2, 0, 0] rfl) ?_ ?_
    · exact ⟨Nat.zero_le _, OS.lit (sz := 2) (n := 1) rfl (by decide), BsOKr.one ⟨⟨rfl, Nat.le_refl _, Nat.zero_le _, Cels.nil⟩, ⟨rfl, hco.2.1, by dsimp only; omega, hco.mem⟩, ⟨vg0, rfl, hv0l, hv0c⟩, held_d (hh n (Nat.le_refl _)) hcd⟩, by rw [rawTo_0P]; exact congrArg (fun z => [(([] : List Int), z)]) hcd⟩
    intro h _f hJ
    refine s_norm _ (by simp only [pull, picks, setG, List.cons_append, List.nil_append, List.append_nil, List.drop_succ_cons, List.drop_zero]; rfl) ?_
    obtain ⟨hgk, hoo, hbo, hbd⟩ := hJ
    refine s_seq ?_
    refine s_region ?_
    refine o_val rfl rfl rfl (y_lss rfl rfl) ?_
    refine o_nil ?_
    refine s_seq ?_
    refine s_if rfl (fun h4 => ?_) (fun h5 => ?_)
    · refine s_skip ?_
      refine s_seq ?_
      refine s_block ?_
      refine s_seq ?_
      refine s_region ?_
      refine o_val rfl rfl rfl (y_move (v := (.int _ _)) rfl) ?_
      refine o_val rfl rfl rfl (y_indexAddr Try.runUnderlying36 Try.sizeOf41 (some_at (sz := 1) encPa_len (i := 0) hpf.2.2.2.2.1 (by omega)) rfl rfl (by omega)) ?_
      refine o_val rfl rfl rfl (y_loads (cs := [_, _]) Try.isAgg41 Try.sizeOf41 rfl (by unfold idx; rw [Option.isSome_map]; exact some_at (sz := 1) encPa_len (i := 0) hpf.2.2.2.2.1 (by omega)) rfl (cels_at (sz := 2) encPa_len hpf.2.2.2.2.1.here (by omega))) ?_
      refine o_alloc rfl Try.zeroValue41 rfl (fun b6 => ?_)
      refine o_val rfl rfl rfl (y_assign (v := (.int _ _)) rfl) ?_
      refine o_stores (vs := [(.int _ _), (.slice _ _ _)]) 3 rfl Try.sizeOf41 rfl rfl rfl (by simp [Value.oneCell']) (by simp) ?_
      refine o_nil ?_
      refine s_seq ?_
      refine s_region ?_
      have hqk := good_at (ks := ks) (hg n (Nat.le_refl _)) (show h.k < (l.getD ((n : Nat) : Int).toNat default).ps.length by omega)
      obtain ⟨hq0, hq1, hq2, bu, hub⟩ := hqk
      have hqo := hpf.2.2.2.2.2 _ (getD_mem' (show h.k < (l.getD ((n : Nat) : Int).toNat default).ps.length by omega) : ((l.getD ((n : Nat) : Int).toNat default).ps.getD ((h.k : Nat) : Int).toNat default) ∈ (l.getD ((n : Nat) : Int).toNat default).ps)
      have hq0' : 0 ≤ ((l.getD ((n : Nat) : Int).toNat default).ps.getD ((h.k : Nat) : Int).toNat default).of := hq0
      have hq1' : ((l.getD ((n : Nat) : Int).toNat default).ps.getD ((h.k : Nat) : Int).toNat default).of < n := hq1
      have hq2' : ((l.getD ((n : Nat) : Int).toNat default).ps.getD ((h.k : Nat) : Int).toNat default).os.length ≤ 40 := hq2
      have hres : resV ks (l.map PfR.d) ((l.getD ((n : Nat) : Int).toNat default).ps.getD ((h.k : Nat) : Int).toNat default).of.toNat (((l.getD ((n : Nat) : Int).toNat default).ps.getD ((h.k : Nat) : Int).toNat default).os.map OvR.d) = useV ks (l.map PfR.d) ((l.getD ((n : Nat) : Int).toNat default).ps.getD ((h.k : Nat) : Int).toNat default).d := if_neg (by rw [List.length_map]; omega)
      refine o_val rfl rfl rfl (y_move (v := (.slice _ _ _)) rfl) ?_
      refine o_val rfl rfl rfl (y_move (v := (.slice _ _ _)) rfl) ?_
      refine o_val rfl rfl rfl (y_field0 Try.runUnderlying41 rfl Try.sizeOf3 rfl rfl) ?_
      refine o_val rfl rfl rfl (y_load Try.isAgg3 rfl (cel_own 3 rfl rfl)) ?_
      refine o_val rfl rfl rfl (y_field0 Try.runUnderlying41 rfl Try.sizeOf39 rfl rfl) ?_
      refine o_val rfl rfl rfl (y_load Try.isAgg39 rfl (cel_own 3 rfl rfl)) ?_
      refine o_fn 0 (d := 54) rfl Try.call63 (ih ((l.getD ((n : Nat) : Int).toNat default).ps.getD ((h.k : Nat) : Int).toNat default).of.toNat (by omega) A nK cK ks (hks.sub MSub.ext) hck lA ln lc l (hl.sub MSub.ext) (fun i hi => hg i (by omega)) (fun i hi => hh i (by omega)) (by omega) (by omega) ((l.getD ((n : Nat) : Int).toNat default).ps.getD ((h.k : Nat) : Int).toNat default).of (by omega) ((l.getD ((n : Nat) : Int).toNat default).ps.getD ((h.k : Nat) : Int).toNat default).A ((l.getD ((n : Nat) : Int).toNat default).ps.getD ((h.k : Nat) : Int).toNat default).n ((l.getD ((n : Nat) : Int).toNat default).ps.getD ((h.k : Nat) : Int).toNat default).c ((l.getD ((n : Nat) : Int).toNat default).ps.getD ((h.k : Nat) : Int).toNat default).os (OsOK.sub hqo MSub.ext)) rfl ?_
      rintro _ _ (⟨e, hx, he, rfl, rfl⟩ | ⟨bs', gs', B', bn', C', E', P', hx, rfl, hbn, ho', hb', rfl⟩)
      · exact absurd (hx.symm.trans (hres.trans hub)) (by simp)
      · have hux : useV ks (l.map PfR.d) ((l.getD ((n : Nat) : Int).toNat default).ps.getD ((h.k : Nat) : Int).toNat default).d = .ok (bs'.map BR.d) := hres.symm.trans hx
        have h15 := rawTo_15P hg hn3 (k := h.k + 1) (show h.k + 1 ≤ (l.getD ((n : Nat) : Int).toNat default).ps.length by omega)
        rw [rawTo_stepP (k := h.k) (hg n (Nat.le_refl _)) (show h.k < (l.getD n default).ps.length from (show h.k < (l.getD ((n : Nat) : Int).toNat default).ps.length by omega)) hux, ← hbd, List.length_append, List.length_map, List.length_map, List.length_map] at h15
        have hbp := raw_pathP (l := l) (n := ((l.getD ((n : Nat) : Int).toNat default).ps.getD ((h.k : Nat) : Int).toNat default).of.toNat) (fun i hi => hg i (by omega)) rfl hux
        have hgl' := hb'.1
        refine o_val rfl rfl rfl (y_move (v := (.tuple #[(.slice _ _ _), (.int _ _)])) rfl) ?_
        refine o_val rfl rfl rfl (y_extract (v := (.slice _ _ _)) rfl rfl) ?_
        refine o_val rfl rfl rfl (y_extract (v := (.int _ _)) rfl rfl) ?_
        refine o_val rfl rfl rfl (y_assign (v := (.slice _ _ _)) rfl) ?_
        refine o_val rfl rfl rfl (y_assign (v := (.int _ _)) rfl) ?_
        refine o_nil ?_
        refine s_forget [(0, (.slice _ _ _)), (1, (.slice _ _ _)), (3, (.slice _ _ _)), (10, (.slice _ _ _)), (11, (.int _ _)), (13, (.slice _ _ _)), (14, (.int _ _)), (40, (.slice _ _ _)), (41, (.int _ _)), (42, (.int _ _))] ⟨rfl, rfl, rfl, rfl, rfl, rfl, rfl, rfl, rfl, rfl, trivial⟩ (fun _f => ?_)
        refine s_seq ?_
        refine s_seq ?_
        refine s_region ?_
        refine o_val rfl rfl rfl (y_move (v := (.int _ _)) rfl) ?_
        refine o_val rfl rfl rfl (y_neq rfl rfl) ?_
        refine o_nil ?_
        refine s_if rfl (fun h7 => ?_) (fun h8 => ?_)
        · exact absurd rfl h7
        · refine s_skip ?_
          refine s_seq ?_
          refine s_seq ?_
          refine s_region ?_
          refine o_val rfl rfl rfl (y_move (v := (.slice _ _ _)) rfl) ?_
          refine o_val rfl rfl rfl (y_len Try.runUnderlying28 rfl) ?_
          refine o_val rfl rfl rfl (y_move (v := (.int _ _)) rfl) ?_
          refine o_nil ?_
          refine s_block ?_
          refine s_pull 5 ?_
          refine s_pull 3 ?_
          refine s_fuse ?_
          refine s_loopK (γ := LI4) [(0, (.slice _ _ _)), (1, (.slice _ _ _)), (3, (.slice _ _ _)), (11, (.int _ _)), (40, (.slice _ _ _)), (41, (.int _ _)), (42, (.int _ _)), (60, (.slice _ _ _)), (61, (.int _ _))] [_, _, _] (fun v => [(10, .slice v.A v.bs.length v.c), (62, .int .i64 v.j)]) (fun v => [v.E, v.P]) (fun v => v.j ≤ bn' ∧ OS v.A v.bs.length v.c 35 2 ((v.bs).flatMap encB) v.E ∧ BsOKr ks (inG v.P) v.bs (h.gs ++ gs'.take v.j) ∧ v.bs.map BR.d = rawTo ks (l.map PfR.d) n h.k ++ ((bs'.map BR.d).take v.j).map (preV (h.k : Nat)) ∧ MSub (inG (P' ++ h.P)) (inG v.P) ∧ v.bs.length = h.bs.length + v.j) (fun v => bn' - v.j) (LI4.mk 0 h.bs h.A h.c h.E (P' ++ h.P)) ⟨rfl, rfl, rfl, rfl, rfl, rfl, rfl, rfl, rfl, rfl, rfl, trivial⟩ (sub_picks [3, 0, 0, 0, 0] rfl) ?_ ?_
          · exact ⟨Nat.zero_le _, hoo, by rw [List.take_zero, List.append_nil]; exact hbo.sub inG_right, by rw [List.take_zero, List.map_nil, List.append_nil]; exact hbd, MSub.refl, rfl⟩
          intro v _f hV
          refine s_norm _ (by simp only [pull, picks, setG, List.cons_append, List.nil_append, List.append_nil, List.drop_succ_cons, List.drop_zero]; rfl) ?_
          obtain ⟨hvj, hvo2, hvb, hvd, hvm, hvl⟩ := hV
          refine s_seq ?_
          refine s_region ?_
          refine o_val rfl rfl rfl (y_lss rfl rfl) ?_
          refine o_nil ?_
          refine s_seq ?_
          refine s_if rfl (fun h9 => ?_) (fun h10 => ?_)
          · refine s_skip ?_
            refine s_seq ?_
            refine s_block ?_
            refine s_seq ?_
            refine s_region ?_
            refine o_val rfl rfl rfl (y_indexAddr Try.runUnderlying28 Try.sizeOf35 (ho'.some_of (by omega)) rfl rfl (by omega)) ?_
            refine o_val rfl rfl rfl (y_loads (cs := [_, _]) Try.isAgg35 Try.sizeOf35 rfl (by unfold idx; rw [Option.isSome_map]; exact ho'.some_of (by omega)) rfl (cels_at (sz := 2) encB_len (ho'.cels (j := 2) rfl) (by omega))) ?_
            refine o_alloc rfl Try.zeroValue35 rfl (fun b11 => ?_)
            refine o_stores (vs := [(.slice _ _ _), (.slice _ _ _)]) 5 rfl Try.sizeOf35 rfl rfl rfl (by simp [Value.oneCell']) (by simp) ?_
            refine o_nil ?_
            refine s_norm [_, _, _, _, _, [(_, .cells [(.slice _ _ _), (.slice _ _ _)].toArray 35 (0, 0))]] rfl ?_
            refine s_drawn 1 (by kernel_rfl) ?_
            have hyb : BOKr ks (inG P') (gs'.getD v.j []) (bs'.getD ((v.j : Nat) : Int).toNat default) := hb'.2 v.j (by omega)
            have hyp : (bs'.getD ((v.j : Nat) : Int).toNat default).ps.length ≤ 3 := by have := hbp _ (List.mem_map.2 ⟨_, getD_mem' (show v.j < bs'.length by omega), rfl⟩ : BR.d (bs'.getD ((v.j : Nat) : Int).toNat default) ∈ bs'.map BR.d); exact Nat.le_trans this (by omega)
            have hypl := hyb.1.1
            refine d_val (i := 0) rfl (by kernel_rfl) (by kernel_rfl) (by kernel_rfl) rfl rfl rfl (y_move (v := (.slice _ _ _)) rfl) ?_
            refine d_val (i := 1) rfl (by kernel_rfl) (by kernel_rfl) (by kernel_rfl) rfl rfl rfl (y_move (v := (.int _ _)) rfl) ?_
            refine d_val (i := 3) rfl (by kernel_rfl) (by kernel_rfl) (by kernel_rfl) rfl rfl rfl (y_field0 Try.runUnderlying35 rfl Try.sizeOf22 rfl rfl) ?_
            refine d_val (i := 4) rfl (by kernel_rfl) (by kernel_rfl) (by kernel_rfl) rfl rfl rfl (y_load Try.isAgg22 rfl (cel_own 4 rfl rfl)) ?_
            refine d_val (i := 7) rfl (by kernel_rfl) (by kernel_rfl) (by kernel_rfl) rfl rfl rfl (y_field0 Try.runUnderlying35 rfl Try.sizeOf33 rfl rfl) ?_
            refine d_val (i := 8) rfl (by kernel_rfl) (by kernel_rfl) (by kernel_rfl) rfl rfl rfl (y_load Try.isAgg33 rfl (cel_own 4 rfl rfl)) ?_
            refine d_eff (k := 2) (n := 1) (m := 5) rfl (by kernel_rfl) rfl ?_
            refine o_lit (vs := [(0, .int _ _)]) rfl rfl (RBuild_k2 _) (fun b12 => ?_)
            refine o_nil ?_
            refine d_eff (k := 5) (n := 1) (m := 5) rfl (by kernel_rfl) rfl ?_
            refine o_lit (vs := [(0, .slice _ _ _), (1, .slice _ _ _)]) rfl rfl (RBuild_k3 _ _ _ _ _ _) (fun b13 => ?_)
            refine o_nil ?_
            refine d_eff (k := 6) (n := 1) (m := 5) rfl (by kernel_rfl) rfl ?_
            refine o_fn 0 (d := 72) rfl Try.call22 (ConcatQ_c _ 2 2 [FQ.mk (some ⟨b12, 0, none⟩) 1 1 [((h.k : Nat) : Int)], FQ.mk (bs'.getD ((v.j : Nat) : Int).toNat default).pA (bs'.getD ((v.j : Nat) : Int).toNat default).pn (bs'.getD ((v.j : Nat) : Int).toNat default).pc (bs'.getD ((v.j : Nat) : Int).toNat default).ps] (cels_own 7 rfl rfl).down rfl (by decide) (twoQ ⟨rfl, Nat.le_refl _, (cels_own 6 rfl rfl).down⟩ ⟨hyb.1.1, hyb.1.2.1, (hyb.1.2.2.2.ms (inG_left.trans hvm)).ms (inG_ext (j := 1) rfl)⟩) (by rw [catQ2]; simp only [List.length_append, List.length_singleton]; omega)) rfl ?_
            rintro _ _ ⟨cA2, cc2, cE2, rfl, hco2, rfl⟩
            have hcat : catQ [FQ.mk (some ⟨b12, 0, none⟩) 1 1 [((h.k : Nat) : Int)], FQ.mk (bs'.getD ((v.j : Nat) : Int).toNat default).pA (bs'.getD ((v.j : Nat) : Int).toNat default).pn (bs'.getD ((v.j : Nat) : Int).toNat default).pc (bs'.getD ((v.j : Nat) : Int).toNat default).ps] = ((h.k : Nat) : Int) :: (bs'.getD ((v.j : Nat) : Int).toNat default).ps := by rw [catQ2]; rfl
            rw [hcat] at hco2 ⊢
            refine o_nil ?_
            refine d_val (i := 9) rfl (by kernel_rfl) (by kernel_rfl) (by kernel_rfl) rfl rfl rfl (y_build (vs := [(0, .slice _ _ _), (1, .slice _ _ _)]) rfl (RBuild_k4 _ _ _ _ _ _)) ?_
            refine d_eff (k := 10) (n := 2) (m := 5) rfl (by kernel_rfl) rfl ?_
            refine o_lit (vs := [(0, .agg #[.slice _ _ _, .slice _ _ _])]) rfl rfl (RBuild_k1 _ _ _ _ _ _) (fun b14 => ?_)
            refine o_nil ?_
            refine d_eff (k := 11) (n := 2) (m := 5) rfl (by kernel_rfl) rfl ?_
            refine o_append (sz := 2) (bytes := 48) (news := [(.slice _ _ _), (.slice _ _ _)]) 1 rfl Try.underlying28 Try.type35 rfl rfl rfl rfl rfl hvo2 rfl rfl (Src.slice Try.underlying28 (cels_own 9 rfl rfl) rfl (by simp [Value.oneCell']) (by simp)) (by omega) (fun A15 c16 E17 ho18 hn19 => ?_)
            have ho20 : OS A15 (v.bs.length + 1) c16 35 2 ((v.bs ++ [(BR.mk cA2 (((h.k : Nat) : Int) :: (bs'.getD ((v.j : Nat) : Int).toNat default).ps).length cc2 (((h.k : Nat) : Int) :: (bs'.getD ((v.j : Nat) : Int).toNat default).ps) (bs'.getD ((v.j : Nat) : Int).toNat default).cA (bs'.getD ((v.j : Nat) : Int).toNat default).cn (bs'.getD ((v.j : Nat) : Int).toNat default).cc (bs'.getD ((v.j : Nat) : Int).toNat default).cs)]).flatMap encB) E17 := os_snoc ho18 rfl
            clear ho18
            refine o_nil ?_
            refine d_val (i := 12) rfl (by kernel_rfl) (by kernel_rfl) (by kernel_rfl) rfl rfl rfl (y_assign (v := (.slice _ _ _)) rfl) ?_
            refine d_nil (n := 2) (m := 5) (by kernel_rfl) rfl ?_
            refine s_norm [_, _, _, _, _, _, [(_, .cells [(.slice _ _ _), (.slice _ _ _)].toArray 35 (0, 0))], [(_, .cells [(.int _ _)].toArray 3 (0, 0))], [(_, .cells [(.slice _ _ _), (.slice _ _ _)].toArray 22 (0, 0))], [(_, .cells [(.slice _ _ _), (.slice _ _ _)].toArray 35 (0, 0))]] rfl ?_
            refine s_forget [(0, (.slice _ _ _)), (1, (.slice _ _ _)), (3, (.slice _ _ _)), (10, (.slice _ _ _)), (11, (.int _ _)), (40, (.slice _ _ _)), (41, (.int _ _)), (42, (.int _ _)), (60, (.slice _ _ _)), (61, (.int _ _)), (62, (.int _ _))] ⟨rfl, rfl, rfl, rfl, rfl, rfl, rfl, rfl, rfl, rfl, rfl, trivial⟩ (fun _f => ?_)
            refine s_region ?_
            refine o_pull 2 ?_
            refine o_pull 1 ?_
            refine o_fuse ?_
            refine o_val rfl rfl rfl (y_add rfl rfl (by simp only [inK]; omega)) ?_
            refine o_val rfl rfl rfl (y_move (v := (.int _ _)) rfl) ?_
            refine o_nil ?_
            exact ⟨LI4.mk (v.j + 1) (v.bs ++ [(BR.mk cA2 (((h.k : Nat) : Int) :: (bs'.getD ((v.j : Nat) : Int).toNat default).ps).length cc2 (((h.k : Nat) : Int) :: (bs'.getD ((v.j : Nat) : Int).toNat default).ps) (bs'.getD ((v.j : Nat) : Int).toNat default).cA (bs'.getD ((v.j : Nat) : Int).toNat default).cn (bs'.getD ((v.j : Nat) : Int).toNat default).cc (bs'.getD ((v.j : Nat) : Int).toNat default).cs)]) A15 c16 E17 (cE2 ++ v.P), (by dsimp only; omega), ⟨by dsimp only; omega, by dsimp only; rw [List.length_append]; exact ho20, by dsimp only; rw [take_next (d := []) (show v.j < gs'.length by omega), ← List.append_assoc]; exact (hvb.sub inG_right).snoc ⟨⟨rfl, hco2.2.1, by simp only [List.length_cons]; omega, hco2.mem.ms inG_left⟩, ⟨hyb.2.1.1, hyb.2.1.2.1, hyb.2.1.2.2.1, hyb.2.1.2.2.2.ms ((inG_left.trans hvm).trans inG_right)⟩, hyb.2.2⟩, by dsimp only; rw [List.map_append, hvd, take_next (ys := bs'.map BR.d) (d := default) (by rw [List.length_map]; omega), List.map_append, List.append_assoc, bget]; rfl, hvm.trans inG_right, by dsimp only; rw [List.length_append, List.length_singleton, hvl]; omega⟩, ⟨(by dsimp only; rw [List.length_append]; rfl), (congrArg (Value.int .i64) (by (try dsimp only); omega)), rfl, rfl, rfl, rfl, rfl, rfl, rfl, rfl, rfl, trivial⟩, (sub_picks [1, 0, 0, 0, 0] rfl)⟩
          · refine s_exit ?_
            refine s_seq ?_
            refine s_region ?_
            refine o_val rfl rfl rfl (y_move (v := (.slice _ _ _)) rfl) ?_
            refine o_val rfl rfl rfl (y_len Try.runUnderlying28 rfl) ?_
            refine o_val rfl rfl rfl (y_gtr rfl rfl) ?_
            refine o_nil ?_
            refine s_forget [(0, (.slice _ _ _)), (1, (.slice _ _ _)), (3, (.slice _ _ _)), (10, (.slice _ _ _)), (40, (.slice _ _ _)), (41, (.int _ _)), (42, (.int _ _)), (81, (.bool _))] ⟨rfl, rfl, rfl, rfl, rfl, rfl, rfl, rfl, trivial⟩ (fun _f => ?_)
            refine s_if rfl (fun h21 => ?_) (fun h22 => ?_)
            · exfalso; omega
            · refine s_skip ?_
              refine s_region ?_
              refine o_pull 3 ?_
              refine o_pull 4 ?_
              refine o_fuseF ?_
              refine o_val rfl rfl rfl (y_add rfl rfl (by simp only [inK]; omega)) ?_
              refine o_val rfl rfl rfl (y_move (v := (.int _ _)) rfl) ?_
              refine o_nil ?_
              exact ⟨LO4.mk (h.k + 1) v.bs (h.gs ++ gs') v.A v.c v.E v.P, (by first | omega | (dsimp only; omega)), ⟨by dsimp only; omega, hvo2, by rw [show v.j = gs'.length by omega, List.take_length] at hvb; exact hvb, by rw [show v.j = (bs'.map BR.d).length by rw [List.length_map]; omega, List.take_length] at hvd; rw [hvd, rawTo_stepP (k := h.k) (hg n (Nat.le_refl _)) (show h.k < (l.getD n default).ps.length from (show h.k < (l.getD ((n : Nat) : Int).toNat default).ps.length by omega)) hux]⟩, ⟨rfl, (congrArg (Value.int .i64) (by (try dsimp only); omega)), rfl, rfl, rfl, rfl, rfl, trivial⟩, (sub_picks [1, 0, 0] rfl)⟩
    · refine s_exit ?_
      refine s_seq ?_
      refine s_seq ?_
      refine s_region ?_
      refine o_val rfl rfl rfl (y_move (v := (.slice _ _ _)) rfl) ?_
      refine o_val rfl rfl rfl (y_len Try.runUnderlying39 rfl) ?_
      refine o_val rfl rfl rfl (y_move (v := (.int _ _)) rfl) ?_
      refine o_nil ?_
      refine s_block ?_
      have hbd2 : h.bs.map BR.d = rawV ks (l.map PfR.d) n := by rw [rawV_P]; exact hbd.trans (congrArg (rawTo ks (l.map PfR.d) n) (show h.k = (l.getD n default).ps.length from (show h.k = (l.getD ((n : Nat) : Int).toNat default).ps.length by omega)))
      have h15 : (rawV ks (l.map PfR.d) n).length ≤ 15 := by rw [rawV_P]; exact rawTo_15P hg hn3 (Nat.le_refl _)
      rw [← hbd2, List.length_map] at h15
      refine s_loopK (γ := LV4) [(0, (.slice _ _ _)), (10, (.slice _ _ _)), (83, (.slice _ _ _)), (84, (.int _ _))] [_, _] (fun u => [(85, .int .i64 u.k)]) (fun u => [u.gs.flatten]) (fun u => u.k ≤ on ∧ u.bs.flatMap encB = h.bs.flatMap encB ∧ u.bs.length = h.bs.length ∧ BsOKr ks (inG h.P) u.bs u.gs ∧ oversV ks (rawV ks (l.map PfR.d) n) ((os.map OvR.d).take u.k) = .ok (u.bs.map BR.d)) (fun u => on - u.k) (LV4.mk 0 h.bs h.gs []) ⟨rfl, rfl, rfl, rfl, rfl, trivial⟩ (sub_picks [1, 0, 0] rfl) ?_ ?_
      · exact ⟨Nat.zero_le _, rfl, rfl, hbo, by rw [hbd2]; rfl⟩
      intro u _f hU
      refine s_norm _ (by simp only [pull, picks, setG, List.cons_append, List.nil_append, List.append_nil, List.drop_succ_cons, List.drop_zero]; rfl) ?_
      obtain ⟨huk, huf, hul, hub2, huo⟩ := hU
      have hup : upP ((u.bs.map BR.d).map Prod.fst) := by rw [(oversV_len huo).2]; exact rawV_up _ _ _
      have hugd : ∀ i, i < (u.bs.map BR.d).length → goodV ks ((u.bs.map BR.d).getD i default).2 := fun i hi => by rw [bget]; exact held_goodV (hub2.2 i (by simpa using hi)).2.2.2
      refine s_seq ?_
      refine s_region ?_
      refine o_val rfl rfl rfl (y_lss rfl rfl) ?_
      refine o_nil ?_
      refine s_seq ?_
      refine s_if rfl (fun h23 => ?_) (fun h24 => ?_)
      · refine s_skip ?_
        refine s_seq ?_
        refine s_block ?_
        refine s_seq ?_
        refine s_region ?_
        refine o_val rfl rfl rfl (y_indexAddr Try.runUnderlying39 Try.sizeOf147 (some_at (sz := 3) encOv_len (i := 0) hos.2.2.2.1 (by omega)) rfl rfl (by omega)) ?_
        refine o_val rfl rfl rfl (y_loads (cs := [_, _, _, _]) Try.isAgg147 Try.sizeOf147 rfl (by unfold idx; rw [Option.isSome_map]; exact some_at (sz := 3) encOv_len (i := 0) hos.2.2.2.1 (by omega)) rfl (cels_at (sz := 4) encOv_len hos.2.2.2.1.here (by omega))) ?_
        refine o_alloc rfl Try.zeroValue147 rfl (fun b25 => ?_)
        refine o_stores (vs := [(.slice _ _ _), (.int _ _), (.int _ _), (.int _ _)]) 3 rfl Try.sizeOf147 rfl rfl rfl (by simp [Value.oneCell']) (by simp) ?_
        refine o_nil ?_
        refine s_seq ?_
        refine s_region ?_
        have hoo2 := hos.2.2.2.2 _ (getD_mem' (show u.k < os.length by omega) : (os.getD ((u.k : Nat) : Int).toNat default) ∈ os)
        refine o_val rfl rfl rfl (y_assign (v := (.int _ _)) rfl) ?_
        refine o_nil ?_
        refine s_seq ?_
        refine s_seq ?_
        refine s_region ?_
        refine o_val rfl rfl rfl (y_move (v := (.slice _ _ _)) rfl) ?_
        refine o_val rfl rfl rfl (y_len Try.runUnderlying28 rfl) ?_
        refine o_val rfl rfl rfl (y_move (v := (.int _ _)) rfl) ?_
        refine o_nil ?_
        refine s_block ?_
        refine s_loopK (γ := LX14) [(0, (.slice _ _ _)), (10, (.slice _ _ _)), (18, (.pointer _)), (83, (.slice _ _ _)), (84, (.int _ _)), (85, (.int _ _)), (89, (.slice _ _ _)), (90, (.int _ _))] [_, _, _] (fun w => [(19, .int .i64 w.d), (91, .int .i64 w.i)]) (fun w => [w.gs.flatten]) (fun w => w.i ≤ h.bs.length ∧ w.bs.flatMap encB = u.bs.flatMap encB ∧ w.bs.length = u.bs.length ∧ BsOKr ks (inG h.P) w.bs w.gs ∧ statO ks (u.bs.map BR.d) (os.getD ((u.k : Nat) : Int).toNat default).d w.i 0 w.d (w.bs.map BR.d)) (fun w => h.bs.length - w.i) (LX14.mk 0 4 u.bs u.gs) ⟨rfl, rfl, rfl, rfl, rfl, rfl, rfl, rfl, rfl, rfl, trivial⟩ (sub_picks [0, 0, 0, 0] rfl) ?_ ?_
        · exact ⟨Nat.zero_le _, rfl, rfl, hub2, .inl ⟨rfl, rfl, fun a ha => absurd ha (Nat.not_lt_zero a), fun b hb => absurd hb (Nat.not_lt_zero b)⟩⟩
        intro w _f hW
        refine s_norm _ (by simp only [pull, picks, setG, List.cons_append, List.nil_append, List.append_nil, List.drop_succ_cons, List.drop_zero]; rfl) ?_
        obtain ⟨hwi, hwf, hwl2, hwb, hws⟩ := hW
        refine s_seq ?_
        refine s_region ?_
        refine o_val rfl rfl rfl (y_lss rfl rfl) ?_
        refine o_nil ?_
        refine s_seq ?_
        refine s_if rfl (fun h26 => ?_) (fun h27 => ?_)
        · refine s_skip ?_
          refine s_seq ?_
          refine s_block ?_
          refine s_seq ?_
          refine s_region ?_
          have hcelw : Cels (inG h.E) [] h.A (w.bs.flatMap encB) := by rw [hwf, huf]; exact hoo.mem
          have hbw1 : BOKr ks (inG h.P) (w.gs.getD w.i []) (w.bs.getD ((w.i : Nat) : Int).toNat default) := hwb.2 w.i (by omega)
          have hbwn := hbw1.2.1.1
          have hbwx := hbw1.2.1.2.2.1
          refine o_val rfl rfl rfl (y_indexAddr Try.runUnderlying28 Try.sizeOf35 (some_at (sz := 1) encB_len (i := 0) hcelw (by omega)) rfl rfl (by omega)) ?_
          refine o_val rfl rfl rfl (y_loads (cs := [_, _]) Try.isAgg35 Try.sizeOf35 rfl (by unfold idx; rw [Option.isSome_map]; exact some_at (sz := 1) encB_len (i := 0) hcelw (by omega)) rfl (cels_at (sz := 2) encB_len ((hcelw).ms (inG_ext (j := 1) rfl)).up (by omega))) ?_
          refine o_alloc rfl Try.zeroValue35 rfl (fun b28 => ?_)
          refine o_stores (vs := [(.slice _ _ _), (.slice _ _ _)]) 4 rfl Try.sizeOf35 rfl rfl rfl (by simp [Value.oneCell']) (by simp) ?_
          refine o_nil ?_
          refine s_norm [_, _, _, [(_, .cells [(.slice _ _ _), (.int _ _), (.int _ _), (.int _ _)].toArray 147 (0, 0))], [(_, .cells [(.slice _ _ _), (.slice _ _ _)].toArray 35 (0, 0))]] rfl ?_
          refine s_seq ?_
          refine s_region ?_
          refine o_val rfl rfl rfl (y_field0 Try.runUnderlying35 rfl Try.sizeOf33 rfl rfl) ?_
          refine o_val rfl rfl rfl (y_load Try.isAgg33 rfl (cel_own 4 rfl rfl)) ?_
          refine o_val rfl rfl rfl (y_len Try.runUnderlying33 rfl) ?_
          refine o_val rfl rfl rfl (y_move (v := (.int _ _)) rfl) ?_
          refine o_nil ?_
          refine s_block ?_
          refine s_loopK (γ := LX14) [(0, (.slice _ _ _)), (10, (.slice _ _ _)), (18, (.pointer _)), (21, (.pointer _)), (83, (.slice _ _ _)), (84, (.int _ _)), (85, (.int _ _)), (89, (.slice _ _ _)), (90, (.int _ _)), (91, (.int _ _)), (96, (.slice _ _ _)), (97, (.int _ _))] [_, _, _, _] (fun z => [(19, .int .i64 z.d), (98, .int .i64 z.i)]) (fun z => [z.gs.flatten]) (fun z => z.i ≤ (w.bs.getD ((w.i : Nat) : Int).toNat default).cn ∧ z.bs.flatMap encB = u.bs.flatMap encB ∧ z.bs.length = u.bs.length ∧ BsOKr ks (inG h.P) z.bs z.gs ∧ statO ks (u.bs.map BR.d) (os.getD ((u.k : Nat) : Int).toNat default).d w.i z.i z.d (z.bs.map BR.d) ∧ (z.bs.getD ((w.i : Nat) : Int).toNat default).cA = (w.bs.getD ((w.i : Nat) : Int).toNat default).cA ∧ (z.bs.getD ((w.i : Nat) : Int).toNat default).cn = (w.bs.getD ((w.i : Nat) : Int).toNat default).cn ∧ (z.bs.getD ((w.i : Nat) : Int).toNat default).cc = (w.bs.getD ((w.i : Nat) : Int).toNat default).cc ∧ (z.bs.getD ((w.i : Nat) : Int).toNat default).ps = (w.bs.getD ((w.i : Nat) : Int).toNat default).ps ∧ (z.bs.getD ((w.i : Nat) : Int).toNat default).cs.flatMap encC = (w.bs.getD ((w.i : Nat) : Int).toNat default).cs.flatMap encC) (fun z => (w.bs.getD ((w.i : Nat) : Int).toNat default).cn - z.i) (LX14.mk 0 w.d w.bs w.gs) ⟨rfl, rfl, rfl, rfl, rfl, rfl, rfl, rfl, rfl, rfl, rfl, rfl, rfl, rfl, trivial⟩ (sub_picks [0, 0, 0, 0, 0] rfl) ?_ ?_
          · exact ⟨Nat.zero_le _, hwf, hwl2, hwb, hws, rfl, rfl, rfl, rfl, rfl⟩
          intro z _f hZ
          refine s_norm _ (by simp only [pull, picks, setG, List.cons_append, List.nil_append, List.append_nil, List.drop_succ_cons, List.drop_zero]; rfl) ?_
          obtain ⟨hzi, hzf, hzl, hzb, hzs, hz1, hz2, hz3, hz4, hz5⟩ := hZ
          refine s_seq ?_
          refine s_region ?_
          refine o_val rfl rfl rfl (y_lss rfl rfl) ?_
          refine o_nil ?_
          refine s_seq ?_
          refine s_if rfl (fun h29 => ?_) (fun h30 => ?_)
          · refine s_skip ?_
            refine s_seq ?_
            refine s_block ?_
            refine s_seq ?_
            refine s_region ?_
            refine o_val rfl rfl rfl (y_move (v := (.int _ _)) rfl) ?_
            have hbz : BOKr ks (inG h.P) (z.gs.getD w.i []) (z.bs.getD ((w.i : Nat) : Int).toNat default) := hzb.2 w.i (by omega)
            have hwz : w.i < z.bs.length := by omega
            have hzcl := hbz.2.1.1
            have hzc : z.i < (z.bs.getD ((w.i : Nat) : Int).toNat default).cs.length := by omega
            obtain ⟨vg, hvg, hvgl, hvgc⟩ := hbz.2.2.1
            have hcz : COKo (vg.getD z.i []) ((z.bs.getD ((w.i : Nat) : Int).toNat default).cs.getD ((z.i : Nat) : Int).toNat default) := hvgc z.i hzc
            have hczd : goodC ks (lastC (z.bs.getD ((w.i : Nat) : Int).toNat default).cs z.i) ((z.bs.getD ((w.i : Nat) : Int).toNat default).cs.getD ((z.i : Nat) : Int).toNat default) := hbz.2.2.2 z.i hzc
            have hczl := lastC_geP hbz.2.2.2 (show z.i ≤ (z.bs.getD ((w.i : Nat) : Int).toNat default).cs.length by omega)
            have hczk1 := hczd.1
            have hczk2 := hczd.2.1
            have hczh := hczd.2.2
            have hczn : ((z.bs.getD ((w.i : Nat) : Int).toNat default).cs.getD ((z.i : Nat) : Int).toNat default).vs.length = ((z.bs.getD ((w.i : Nat) : Int).toNat default).cs.getD ((z.i : Nat) : Int).toNat default).n := by simpa using hcz.1.len
            have hcf := holds_fits hczh
            have hcfl := hcf.2.1
            have hul2 : (u.bs.getD w.i default).cs.length = (w.bs.getD ((w.i : Nat) : Int).toNat default).cn := by have h1 := (stat_same hzs w.i).2.1; rw [bget, bget] at h1; simp only [BR.d, List.length_map] at h1; have h2 : (z.bs.getD w.i default).cs.length = (w.bs.getD ((w.i : Nat) : Int).toNat default).cn := (hzcl.trans hz2); omega
            have hhs : hitB ((u.bs.map BR.d).getD w.i default) (os.getD ((u.k : Nat) : Int).toNat default).d z.i ↔ (z.bs.getD ((w.i : Nat) : Int).toNat default).ps = (os.getD ((u.k : Nat) : Int).toNat default).ps ∧ ((z.bs.getD ((w.i : Nat) : Int).toNat default).cs.getD ((z.i : Nat) : Int).toNat default).kind = (os.getD ((u.k : Nat) : Int).toNat default).kind ∧ 0 ≤ (os.getD ((u.k : Nat) : Int).toNat default).field ∧ (os.getD ((u.k : Nat) : Int).toNat default).field < (((z.bs.getD ((w.i : Nat) : Int).toNat default).cs.getD ((z.i : Nat) : Int).toNat default).vs.length : Nat) := (hit_same hzs (by rw [bget]; simp only [BR.d, List.length_map]; omega)).trans (by rw [bget]; exact hit_rec)
            have hcelz : Cels (inG h.P) [] (w.bs.getD ((w.i : Nat) : Int).toNat default).cA ((z.bs.getD ((w.i : Nat) : Int).toNat default).cs.flatMap encC) := by rw [hz5]; exact hbw1.2.1.2.2.2
            refine o_val rfl rfl rfl (y_indexAddr Try.runUnderlying33 Try.sizeOf155 (some_at (sz := 1) encC_len (i := 0) hcelz (by omega)) rfl rfl (by omega)) ?_
            refine o_val rfl rfl rfl (y_loads (cs := [_, _]) Try.isAgg155 Try.sizeOf155 rfl (by unfold idx; rw [Option.isSome_map]; exact some_at (sz := 1) encC_len (i := 0) hcelz (by omega)) rfl (cels_at (sz := 2) encC_len ((hcelz).ms (inG_ext (j := 2) rfl)).up (by omega))) ?_
            refine o_alloc rfl Try.zeroValue155 rfl (fun b31 => ?_)
            refine o_val rfl rfl rfl (y_assign (v := (.int _ _)) rfl) ?_
            refine o_stores (vs := [(.int _ _), (.slice _ _ _)]) 5 rfl Try.sizeOf155 rfl rfl rfl (by simp [Value.oneCell']) (by simp) ?_
            refine o_nil ?_
            refine s_seq ?_
            refine s_seq ?_
            refine s_region ?_
            refine o_val rfl rfl rfl (y_field0 Try.runUnderlying35 rfl Try.sizeOf22 rfl rfl) ?_
            refine o_val rfl rfl rfl (y_load Try.isAgg22 rfl (cel_own 4 rfl rfl)) ?_
            refine o_val rfl rfl rfl (y_field0 Try.runUnderlying147 rfl Try.sizeOf22 rfl rfl) ?_
            refine o_val rfl rfl rfl (y_load Try.isAgg22 rfl (cel_own 3 rfl rfl)) ?_
            refine o_fn 0 (d := 107) rfl Try.call21 (EqualI_c (w.bs.getD ((w.i : Nat) : Int).toNat default).pA (w.bs.getD ((w.i : Nat) : Int).toNat default).pn (w.bs.getD ((w.i : Nat) : Int).toNat default).pc (w.bs.getD ((w.i : Nat) : Int).toNat default).ps (hbw1.1.2.2.2.ms (inG_ext (j := 2) rfl)) hbw1.1.1 (os.getD ((u.k : Nat) : Int).toNat default).A (os.getD ((u.k : Nat) : Int).toNat default).n (os.getD ((u.k : Nat) : Int).toNat default).c (os.getD ((u.k : Nat) : Int).toNat default).ps hoo2.2.2.2.here.down hoo2.1 (by have := hbw1.1.2.2.1; omega)) rfl ?_
            rintro _ _ ⟨rfl, rfl⟩
            refine o_split rfl rfl rfl (y_not rfl) (fun p32 => ?_) (fun p33 => ?_)
            · have hmiss : ¬ hitB (u.bs.getD w.i default).d (os.getD ((u.k : Nat) : Int).toNat default).d z.i := fun hh => by rw [← bget] at hh; have hh := hhs.1 hh; exact absurd (hz4.symm.trans hh.1) p32
              refine o_val rfl rfl rfl (y_move (v := (.bool _)) rfl) ?_
              refine o_guard_no rfl rfl rfl rfl rfl ?_
              refine o_guard_no rfl rfl rfl rfl rfl ?_
              refine o_guard_no rfl rfl rfl rfl rfl ?_
              refine o_guard_no rfl rfl rfl rfl rfl ?_
              refine o_guard_no rfl rfl rfl rfl rfl ?_
              refine o_guard_no rfl rfl rfl rfl rfl ?_
              refine o_val rfl rfl rfl (y_pick_t (v := (.bool _)) rfl rfl) ?_
              refine o_val rfl rfl rfl (y_move (v := (.bool _)) rfl) ?_
              refine o_guard_no rfl rfl rfl rfl rfl ?_
              refine o_guard_no rfl rfl rfl rfl rfl ?_
              refine o_guard_no rfl rfl rfl rfl rfl ?_
              refine o_guard_no rfl rfl rfl rfl rfl ?_
              refine o_val rfl rfl rfl (y_pick_t (v := (.bool _)) rfl rfl) ?_
              refine o_val rfl rfl rfl (y_move (v := (.bool _)) rfl) ?_
              refine o_guard_no rfl rfl rfl rfl rfl ?_
              refine o_guard_no rfl rfl rfl rfl rfl ?_
              refine o_guard_no rfl rfl rfl rfl rfl ?_
              refine o_guard_no rfl rfl rfl rfl rfl ?_
              refine o_guard_no rfl rfl rfl rfl rfl ?_
              refine o_guard_no rfl rfl rfl rfl rfl ?_
              refine o_guard_no rfl rfl rfl rfl rfl ?_
              refine o_val rfl rfl rfl (y_pick_t (v := (.bool _)) rfl rfl) ?_
              refine o_nil ?_
              refine s_forget [(0, (.slice _ _ _)), (10, (.slice _ _ _)), (18, (.pointer _)), (19, (.int _ _)), (21, (.pointer _)), (22, (.int _ _)), (23, (.pointer _)), (83, (.slice _ _ _)), (84, (.int _ _)), (85, (.int _ _)), (89, (.slice _ _ _)), (90, (.int _ _)), (91, (.int _ _)), (96, (.slice _ _ _)), (97, (.int _ _)), (98, (.int _ _)), (131, (.bool _))] ⟨rfl, rfl, rfl, rfl, rfl, rfl, rfl, rfl, rfl, rfl, rfl, rfl, rfl, rfl, rfl, rfl, rfl, trivial⟩ (fun _f => ?_)
              refine s_then rfl ?_
              refine s_exit ?_
              refine s_region ?_
              refine o_val rfl rfl rfl (y_add rfl rfl (by simp only [inK]; omega)) ?_
              refine o_val rfl rfl rfl (y_move (v := (.int _ _)) rfl) ?_
              refine o_nil ?_
              exact ⟨LX14.mk (z.i + 1) z.d z.bs z.gs, (by first | omega | (dsimp only; omega)), ⟨by dsimp only; omega, hzf, hzl, hzb, stat_miss hzs (by rw [bget]; exact hmiss), hz1, hz2, hz3, hz4, hz5⟩, ⟨rfl, (congrArg (Value.int .i64) (by (try dsimp only); omega)), rfl, rfl, rfl, rfl, rfl, rfl, rfl, rfl, rfl, rfl, rfl, rfl, trivial⟩, (sub_picks [0, 0, 0, 0, 0] rfl)⟩
            · have hp1 : (z.bs.getD ((w.i : Nat) : Int).toNat default).ps = (os.getD ((u.k : Nat) : Int).toNat default).ps := hz4.trans (Decidable.not_not.1 p33)
              refine o_val rfl rfl rfl (y_move (v := (.bool _)) rfl) ?_
              refine o_guard_yes rfl rfl ?_
              refine o_val rfl rfl rfl (y_field0 Try.runUnderlying155 rfl Try.sizeOf3 rfl rfl) ?_
              refine o_guard_yes rfl rfl ?_
              refine o_val rfl rfl rfl (y_load Try.isAgg3 rfl (cel_own 5 rfl rfl)) ?_
              refine o_guard_yes rfl rfl ?_
              refine o_val rfl rfl rfl (y_field0 Try.runUnderlying147 rfl Try.sizeOf145 rfl rfl) ?_
              refine o_guard_yes rfl rfl ?_
              refine o_val rfl rfl rfl (y_field0 Try.runUnderlying145 rfl Try.sizeOf3 rfl rfl) ?_
              refine o_guard_yes rfl rfl ?_
              refine o_val rfl rfl rfl (y_load Try.isAgg3 rfl (cel_own 3 rfl rfl)) ?_
              refine o_guard_yes rfl rfl ?_
              refine o_split rfl rfl rfl (y_neq rfl rfl) (fun p34 => ?_) (fun p35 => ?_)
              · have hmiss : ¬ hitB (u.bs.getD w.i default).d (os.getD ((u.k : Nat) : Int).toNat default).d z.i := fun hh => by rw [← bget] at hh; have hh := hhs.1 hh; exact absurd hh.2.1 p34
                refine o_val rfl rfl rfl (y_pick_f (v := (.bool _)) rfl rfl) ?_
                refine o_val rfl rfl rfl (y_move (v := (.bool _)) rfl) ?_
                refine o_guard_no rfl rfl rfl rfl rfl ?_
                refine o_guard_no rfl rfl rfl rfl rfl ?_
                refine o_guard_no rfl rfl rfl rfl rfl ?_
                refine o_guard_no rfl rfl rfl rfl rfl ?_
                refine o_val rfl rfl rfl (y_pick_t (v := (.bool _)) rfl rfl) ?_
                refine o_val rfl rfl rfl (y_move (v := (.bool _)) rfl) ?_
                refine o_guard_no rfl rfl rfl rfl rfl ?_
                refine o_guard_no rfl rfl rfl rfl rfl ?_
                refine o_guard_no rfl rfl rfl rfl rfl ?_
                refine o_guard_no rfl rfl rfl rfl rfl ?_
                refine o_guard_no rfl rfl rfl rfl rfl ?_
                refine o_guard_no rfl rfl rfl rfl rfl ?_
                refine o_guard_no rfl rfl rfl rfl rfl ?_
                refine o_val rfl rfl rfl (y_pick_t (v := (.bool _)) rfl rfl) ?_
                refine o_nil ?_
                refine s_forget [(0, (.slice _ _ _)), (10, (.slice _ _ _)), (18, (.pointer _)), (19, (.int _ _)), (21, (.pointer _)), (22, (.int _ _)), (23, (.pointer _)), (83, (.slice _ _ _)), (84, (.int _ _)), (85, (.int _ _)), (89, (.slice _ _ _)), (90, (.int _ _)), (91, (.int _ _)), (96, (.slice _ _ _)), (97, (.int _ _)), (98, (.int _ _)), (131, (.bool _))] ⟨rfl, rfl, rfl, rfl, rfl, rfl, rfl, rfl, rfl, rfl, rfl, rfl, rfl, rfl, rfl, rfl, rfl, trivial⟩ (fun _f => ?_)
                refine s_then rfl ?_
                refine s_exit ?_
                refine s_region ?_
                refine o_val rfl rfl rfl (y_add rfl rfl (by simp only [inK]; omega)) ?_
                refine o_val rfl rfl rfl (y_move (v := (.int _ _)) rfl) ?_
                refine o_nil ?_
                exact ⟨LX14.mk (z.i + 1) z.d z.bs z.gs, (by first | omega | (dsimp only; omega)), ⟨by dsimp only; omega, hzf, hzl, hzb, stat_miss hzs (by rw [bget]; exact hmiss), hz1, hz2, hz3, hz4, hz5⟩, ⟨rfl, (congrArg (Value.int .i64) (by (try dsimp only); omega)), rfl, rfl, rfl, rfl, rfl, rfl, rfl, rfl, rfl, rfl, rfl, rfl, trivial⟩, (sub_picks [0, 0, 0, 0, 0] rfl)⟩
              · have hp2 : ((z.bs.getD ((w.i : Nat) : Int).toNat default).cs.getD ((z.i : Nat) : Int).toNat default).kind = (os.getD ((u.k : Nat) : Int).toNat default).kind := Decidable.not_not.1 p35
                refine o_val rfl rfl rfl (y_pick_f (v := (.bool _)) rfl rfl) ?_
                refine o_val rfl rfl rfl (y_move (v := (.bool _)) rfl) ?_
                refine o_guard_yes rfl rfl ?_
                refine o_val rfl rfl rfl (y_field0 Try.runUnderlying147 rfl Try.sizeOf145 rfl rfl) ?_
                refine o_guard_yes rfl rfl ?_
                refine o_val rfl rfl rfl (y_field0 Try.runUnderlying145 rfl Try.sizeOf3 rfl rfl) ?_
                refine o_guard_yes rfl rfl ?_
                refine o_val rfl rfl rfl (y_load Try.isAgg3 rfl (cel_own 3 rfl rfl)) ?_
                refine o_guard_yes rfl rfl ?_
                refine o_split rfl rfl rfl (y_lss rfl rfl) (fun p36 => ?_) (fun p37 => ?_)
                · have hmiss : ¬ hitB (u.bs.getD w.i default).d (os.getD ((u.k : Nat) : Int).toNat default).d z.i := fun hh => by rw [← bget] at hh; have hh := hhs.1 hh; omega
                  refine o_val rfl rfl rfl (y_pick_f (v := (.bool _)) rfl rfl) ?_
                  refine o_val rfl rfl rfl (y_move (v := (.bool _)) rfl) ?_
                  refine o_guard_no rfl rfl rfl rfl rfl ?_
                  refine o_guard_no rfl rfl rfl rfl rfl ?_
                  refine o_guard_no rfl rfl rfl rfl rfl ?_
                  refine o_guard_no rfl rfl rfl rfl rfl ?_
                  refine o_guard_no rfl rfl rfl rfl rfl ?_
                  refine o_guard_no rfl rfl rfl rfl rfl ?_
                  refine o_guard_no rfl rfl rfl rfl rfl ?_
                  refine o_val rfl rfl rfl (y_pick_t (v := (.bool _)) rfl rfl) ?_
                  refine o_nil ?_
                  refine s_forget [(0, (.slice _ _ _)), (10, (.slice _ _ _)), (18, (.pointer _)), (19, (.int _ _)), (21, (.pointer _)), (22, (.int _ _)), (23, (.pointer _)), (83, (.slice _ _ _)), (84, (.int _ _)), (85, (.int _ _)), (89, (.slice _ _ _)), (90, (.int _ _)), (91, (.int _ _)), (96, (.slice _ _ _)), (97, (.int _ _)), (98, (.int _ _)), (131, (.bool _))] ⟨rfl, rfl, rfl, rfl, rfl, rfl, rfl, rfl, rfl, rfl, rfl, rfl, rfl, rfl, rfl, rfl, rfl, trivial⟩ (fun _f => ?_)
                  refine s_then rfl ?_
                  refine s_exit ?_
                  refine s_region ?_
                  refine o_val rfl rfl rfl (y_add rfl rfl (by simp only [inK]; omega)) ?_
                  refine o_val rfl rfl rfl (y_move (v := (.int _ _)) rfl) ?_
                  refine o_nil ?_
                  exact ⟨LX14.mk (z.i + 1) z.d z.bs z.gs, (by first | omega | (dsimp only; omega)), ⟨by dsimp only; omega, hzf, hzl, hzb, stat_miss hzs (by rw [bget]; exact hmiss), hz1, hz2, hz3, hz4, hz5⟩, ⟨rfl, (congrArg (Value.int .i64) (by (try dsimp only); omega)), rfl, rfl, rfl, rfl, rfl, rfl, rfl, rfl, rfl, rfl, rfl, rfl, trivial⟩, (sub_picks [0, 0, 0, 0, 0] rfl)⟩
                · refine o_val rfl rfl rfl (y_pick_f (v := (.bool _)) rfl rfl) ?_
                  refine o_val rfl rfl rfl (y_move (v := (.bool _)) rfl) ?_
                  refine o_guard_yes rfl rfl ?_
                  refine o_val rfl rfl rfl (y_field0 Try.runUnderlying147 rfl Try.sizeOf145 rfl rfl) ?_
                  refine o_guard_yes rfl rfl ?_
                  refine o_val rfl rfl rfl (y_field0 Try.runUnderlying145 rfl Try.sizeOf3 rfl rfl) ?_
                  refine o_guard_yes rfl rfl ?_
                  refine o_val rfl rfl rfl (y_load Try.isAgg3 rfl (cel_own 3 rfl rfl)) ?_
                  refine o_guard_yes rfl rfl ?_
                  refine o_val rfl rfl rfl (y_field0 Try.runUnderlying155 rfl Try.sizeOf22 rfl rfl) ?_
                  refine o_guard_yes rfl rfl ?_
                  refine o_val rfl rfl rfl (y_load Try.isAgg22 rfl (cel_own 5 rfl rfl)) ?_
                  refine o_guard_yes rfl rfl ?_
                  refine o_val rfl rfl rfl (y_len Try.runUnderlying22 rfl) ?_
                  refine o_guard_yes rfl rfl ?_
                  refine o_val rfl rfl rfl (y_geq rfl rfl) ?_
                  refine o_val rfl rfl rfl (y_pick_f (v := (.bool _)) rfl rfl) ?_
                  refine o_nil ?_
                  refine s_forget [(0, (.slice _ _ _)), (10, (.slice _ _ _)), (18, (.pointer _)), (19, (.int _ _)), (21, (.pointer _)), (22, (.int _ _)), (23, (.pointer _)), (83, (.slice _ _ _)), (84, (.int _ _)), (85, (.int _ _)), (89, (.slice _ _ _)), (90, (.int _ _)), (91, (.int _ _)), (96, (.slice _ _ _)), (97, (.int _ _)), (98, (.int _ _)), (131, (.bool _))] ⟨rfl, rfl, rfl, rfl, rfl, rfl, rfl, rfl, rfl, rfl, rfl, rfl, rfl, rfl, rfl, rfl, rfl, trivial⟩ (fun _f => ?_)
                  refine s_if rfl (fun h38 => ?_) (fun h39 => ?_)
                  · have hmiss : ¬ hitB (u.bs.getD w.i default).d (os.getD ((u.k : Nat) : Int).toNat default).d z.i := fun hh => by rw [← bget] at hh; have hh := hhs.1 hh; omega
                    refine s_exit ?_
                    refine s_region ?_
                    refine o_val rfl rfl rfl (y_add rfl rfl (by simp only [inK]; omega)) ?_
                    refine o_val rfl rfl rfl (y_move (v := (.int _ _)) rfl) ?_
                    refine o_nil ?_
                    exact ⟨LX14.mk (z.i + 1) z.d z.bs z.gs, (by first | omega | (dsimp only; omega)), ⟨by dsimp only; omega, hzf, hzl, hzb, stat_miss hzs (by rw [bget]; exact hmiss), hz1, hz2, hz3, hz4, hz5⟩, ⟨rfl, (congrArg (Value.int .i64) (by (try dsimp only); omega)), rfl, rfl, rfl, rfl, rfl, rfl, rfl, rfl, rfl, rfl, rfl, rfl, trivial⟩, (sub_picks [0, 0, 0, 0, 0] rfl)⟩
                  · have hhit : hitB ((u.bs.map BR.d).getD w.i default) (os.getD ((u.k : Nat) : Int).toNat default).d z.i := hhs.2 ⟨hp1, hp2, by omega, by omega⟩
                    have hwst : w.i < (u.bs.map BR.d).length := by rw [List.length_map]; omega
                    have hzst : z.i < ((u.bs.map BR.d).getD w.i default).2.length := by rw [bget]; simp only [BR.d, List.length_map]; omega
                    obtain ⟨hcur, hpi, hci⟩ := stat_hit hzs hup hugd hwst hzst hhit
                    rw [← hcur] at hpi hci hup
                    rw [bget] at hci
                    have hoz := overV_at (ks := ks) (o := (os.getD ((u.k : Nat) : Int).toNat default)) hpi hci
                    have hov0 : overV ks (u.bs.map BR.d) (os.getD ((u.k : Nat) : Int).toNat default).d = if (os.getD ((u.k : Nat) : Int).toNat default).field < 0 ∨ ((((z.bs.getD ((w.i : Nat) : Int).toNat default).cs.getD ((z.i : Nat) : Int).toNat default).vs.length : Nat) : Int) ≤ (os.getD ((u.k : Nat) : Int).toNat default).field then .error 4 else if fitsV (fldOf ks (os.getD ((u.k : Nat) : Int).toNat default).kind (os.getD ((u.k : Nat) : Int).toNat default).field) (os.getD ((u.k : Nat) : Int).toNat default).val then .ok ((z.bs.map BR.d).set w.i ((z.bs.getD ((w.i : Nat) : Int).toNat default).ps, putC ((z.bs.getD ((w.i : Nat) : Int).toNat default).cs.map CR.d) z.i (os.getD ((u.k : Nat) : Int).toNat default).field (os.getD ((u.k : Nat) : Int).toNat default).val)) else .error 1 := by rw [← hcur]; exact hoz
                    rw [if_neg (by omega)] at hov0
                    have hkk := hks.2.2.2.2 _ (getD_mem' (show ((z.bs.getD ((w.i : Nat) : Int).toNat default).cs.getD ((z.i : Nat) : Int).toNat default).kind.toNat < ks.length by omega) : (ks.getD ((z.bs.getD ((w.i : Nat) : Int).toNat default).cs.getD ((z.i : Nat) : Int).toNat default).kind.toNat default) ∈ ks)
                    have hkl := hkk.1
                    have hfok : fOK ((ks.getD ((z.bs.getD ((w.i : Nat) : Int).toNat default).cs.getD ((z.i : Nat) : Int).toNat default).kind.toNat default).fs.getD (os.getD ((u.k : Nat) : Int).toNat default).field.toNat default) := one_field hcf.1 (by omega)
                    have hpw := pow_bd ⟨hfok.2.1, hfok.2.2.1⟩
                    have hlo := hfok.2.2.2
                    have hfe : fldOf ks (os.getD ((u.k : Nat) : Int).toNat default).kind (os.getD ((u.k : Nat) : Int).toNat default).field = ((ks.getD ((z.bs.getD ((w.i : Nat) : Int).toNat default).cs.getD ((z.i : Nat) : Int).toNat default).kind.toNat default).fs.getD (os.getD ((u.k : Nat) : Int).toNat default).field.toNat default) := by rw [← hp2]; rfl
                    have hfv : fitsV ((ks.getD ((z.bs.getD ((w.i : Nat) : Int).toNat default).cs.getD ((z.i : Nat) : Int).toNat default).kind.toNat default).fs.getD (os.getD ((u.k : Nat) : Int).toNat default).field.toNat default) (os.getD ((u.k : Nat) : Int).toNat default).val ↔ ((ks.getD ((z.bs.getD ((w.i : Nat) : Int).toNat default).cs.getD ((z.i : Nat) : Int).toNat default).kind.toNat default).fs.getD (os.getD ((u.k : Nat) : Int).toNat default).field.toNat default).low ≤ (os.getD ((u.k : Nat) : Int).toNat default).val ∧ (os.getD ((u.k : Nat) : Int).toNat default).val ≤ ((ks.getD ((z.bs.getD ((w.i : Nat) : Int).toNat default).cs.getD ((z.i : Nat) : Int).toNat default).kind.toNat default).fs.getD (os.getD ((u.k : Nat) : Int).toNat default).field.toNat default).low + (2 ^ ((ks.getD ((z.bs.getD ((w.i : Nat) : Int).toNat default).cs.getD ((z.i : Nat) : Int).toNat default).kind.toNat default).fs.getD (os.getD ((u.k : Nat) : Int).toNat default).field.toNat default).bits.toNat - 1) := by unfold fitsV highV; rw [if_pos hfok]
                    refine s_skip ?_
                    refine s_seq ?_
                    refine s_drawn 0 (by kernel_rfl) ?_
                    refine d_val (i := 0) rfl (by kernel_rfl) (by kernel_rfl) (by kernel_rfl) rfl rfl rfl (y_move (v := (.slice _ _ _)) rfl) ?_
                    refine d_val (i := 1) rfl (by kernel_rfl) (by kernel_rfl) (by kernel_rfl) rfl rfl rfl (y_field0 Try.runUnderlying155 rfl Try.sizeOf3 rfl rfl) ?_
                    refine d_val (i := 2) rfl (by kernel_rfl) (by kernel_rfl) (by kernel_rfl) rfl rfl rfl (y_load Try.isAgg3 rfl (cel_own 5 rfl rfl)) ?_
                    refine d_val (i := 3) rfl (by kernel_rfl) (by kernel_rfl) (by kernel_rfl) rfl rfl rfl (y_indexAddr Try.runUnderlying23 Try.sizeOf58 (some_at (sz := 1) encK_len (i := 0) hks.2.2.2.1 (by omega)) rfl rfl (by omega)) ?_
                    refine d_val (i := 4) rfl (by kernel_rfl) (by kernel_rfl) (by kernel_rfl) rfl rfl rfl (y_fieldX (F := 1) Try.runUnderlying58 rfl Try.sizeOf56 rfl (some_at (sz := 1) encK_len (i := 0) hks.2.2.2.1 (by omega)) rfl) ?_
                    refine d_val (i := 5) rfl (by kernel_rfl) (by kernel_rfl) (by kernel_rfl) rfl rfl rfl (y_load Try.isAgg56 rfl ((cels_at (sz := 2) encK_len hks.2.2.2.1.here (by omega)).cel' (i := 1) rfl)) ?_
                    refine d_val (i := 6) rfl (by kernel_rfl) (by kernel_rfl) (by kernel_rfl) rfl rfl rfl (y_field0 Try.runUnderlying147 rfl Try.sizeOf145 rfl rfl) ?_
                    refine d_val (i := 7) rfl (by kernel_rfl) (by kernel_rfl) (by kernel_rfl) rfl rfl rfl (y_field0 Try.runUnderlying145 rfl Try.sizeOf3 rfl rfl) ?_
                    refine d_val (i := 8) rfl (by kernel_rfl) (by kernel_rfl) (by kernel_rfl) rfl rfl rfl (y_load Try.isAgg3 rfl (cel_own 3 rfl rfl)) ?_
                    refine d_val (i := 9) rfl (by kernel_rfl) (by kernel_rfl) (by kernel_rfl) rfl rfl rfl (y_indexAddr Try.runUnderlying56 Try.sizeOf61 (some_at (sz := 2) encF_len (i := 0) hkk.2.2.2 (by omega)) rfl rfl (by omega)) ?_
                    refine d_val (i := 10) rfl (by kernel_rfl) (by kernel_rfl) (by kernel_rfl) rfl rfl rfl (y_loads (cs := [_, _, _]) Try.isAgg61 Try.sizeOf61 rfl (by unfold idx; rw [Option.isSome_map]; exact some_at (sz := 2) encF_len (i := 0) hkk.2.2.2 (by omega)) rfl (cels_at (sz := 3) encF_len hkk.2.2.2.here (by omega))) ?_
                    refine d_eff (k := 11) (n := 0) (m := 6) rfl (by kernel_rfl) rfl ?_
                    refine o_alloc rfl Try.zeroValue61 rfl (fun b40 => ?_)
                    refine o_nil ?_
                    refine d_eff (k := 12) (n := 0) (m := 6) rfl (by kernel_rfl) rfl ?_
                    refine o_stores (vs := [(.string _), (.int _ _), (.int _ _)]) 6 rfl Try.sizeOf61 rfl rfl rfl (by simp [Value.oneCell']) (by simp) ?_
                    refine o_nil ?_
                    refine d_nil (n := 0) (m := 6) (by kernel_rfl) rfl ?_
                    refine s_norm [_, _, _, [(_, .cells [(.slice _ _ _), (.int _ _), (.int _ _), (.int _ _)].toArray 147 (0, 0))], [(_, .cells [(.slice _ _ _), (.slice _ _ _)].toArray 35 (0, 0))], [(_, .cells [(.int _ _), (.slice _ _ _)].toArray 155 (0, 0))], [(_, .cells [(.string _), (.int _ _), (.int _ _)].toArray 61 (0, 0))]] rfl ?_
                    refine s_seq ?_
                    refine s_seq ?_
                    refine s_quiet (by kernel_rfl) (by kernel_rfl) ?_
                    refine q_val rfl rfl rfl (y_field0 Try.runUnderlying147 rfl Try.sizeOf3 rfl rfl) ?_
                    refine q_val rfl rfl rfl (y_load Try.isAgg3 rfl (cel_own 3 rfl rfl)) ?_
                    refine q_val rfl rfl rfl (y_field0 Try.runUnderlying61 rfl Try.sizeOf3 rfl rfl) ?_
                    refine q_val rfl rfl rfl (y_load Try.isAgg3 rfl (cel_own 6 rfl rfl)) ?_
                    refine q_split rfl rfl rfl (y_lss rfl rfl) (fun p41 => ?_) (fun p42 => ?_)
                    · refine q_val rfl rfl rfl (y_move (v := (.bool _)) rfl) ?_
                      refine q_guard_no rfl rfl rfl rfl rfl ?_
                      refine q_guard_no rfl rfl rfl rfl rfl ?_
                      refine q_guard_no rfl rfl rfl rfl rfl ?_
                      refine q_guard_no rfl rfl rfl rfl rfl ?_
                      refine q_guard_no rfl rfl rfl rfl rfl ?_
                      refine q_guard_no rfl rfl rfl rfl rfl ?_
                      refine q_guard_no rfl rfl rfl rfl rfl ?_
                      refine q_guard_no rfl rfl rfl rfl rfl ?_
                      refine q_guard_no rfl rfl rfl rfl rfl ?_
                      refine q_guard_no rfl rfl rfl rfl rfl ?_
                      refine q_val rfl rfl rfl (y_pick_t (v := (.bool _)) rfl rfl) ?_
                      refine q_nil ?_
                      refine s_forget [(0, (.slice _ _ _)), (10, (.slice _ _ _)), (18, (.pointer _)), (19, (.int _ _)), (21, (.pointer _)), (22, (.int _ _)), (83, (.slice _ _ _)), (84, (.int _ _)), (85, (.int _ _)), (89, (.slice _ _ _)), (90, (.int _ _)), (91, (.int _ _)), (96, (.slice _ _ _)), (97, (.int _ _)), (98, (.int _ _)), (159, (.bool _))] ⟨rfl, rfl, rfl, rfl, rfl, rfl, rfl, rfl, rfl, rfl, rfl, rfl, rfl, rfl, rfl, rfl, trivial⟩ (fun _f => ?_)
                      refine s_then rfl ?_
                      refine s_seq ?_
                      refine s_region ?_
                      have hnf : overV ks (u.bs.map BR.d) (os.getD ((u.k : Nat) : Int).toNat default).d = .error 1 := by rw [hov0, if_neg (by rw [hfe, hfv]; omega)]
                      refine o_val rfl rfl rfl (y_assign (v := (.slice _ _ _)) rfl) ?_
                      refine o_val rfl rfl rfl (y_assign (v := (.int _ _)) rfl) ?_
                      refine o_nil ?_
                      refine s_ret ?_
                      exact ⟨_, [], res2 rfl rfl rfl, .inl ⟨1, (if_neg (by rw [List.length_map]; omega)).trans (overs_bad (show u.k < os.length by omega) huo hnf), by decide, rfl, rfl⟩, sub_picks [] rfl⟩
                    · refine q_val rfl rfl rfl (y_move (v := (.bool _)) rfl) ?_
                      refine q_guard_yes rfl rfl ?_
                      refine q_val rfl rfl rfl (y_field0 Try.runUnderlying147 rfl Try.sizeOf3 rfl rfl) ?_
                      refine q_guard_yes rfl rfl ?_
                      refine q_val rfl rfl rfl (y_load Try.isAgg3 rfl (cel_own 3 rfl rfl)) ?_
                      refine q_guard_yes rfl rfl ?_
                      refine q_val rfl rfl rfl (y_field0 Try.runUnderlying61 rfl Try.sizeOf3 rfl rfl) ?_
                      refine q_guard_yes rfl rfl ?_
                      refine q_val rfl rfl rfl (y_load Try.isAgg3 rfl (cel_own 6 rfl rfl)) ?_
                      refine q_guard_yes rfl rfl ?_
                      refine q_val rfl rfl rfl (y_field0 Try.runUnderlying61 rfl Try.sizeOf3 rfl rfl) ?_
                      refine q_guard_yes rfl rfl ?_
                      refine q_val rfl rfl rfl (y_load Try.isAgg3 rfl (cel_own 6 rfl rfl)) ?_
                      refine q_guard_yes rfl rfl ?_
                      refine q_val rfl rfl rfl ((y_shl rfl rfl (by have := hfok.2.1; omega)).int (pow_bits ⟨hfok.2.1, hfok.2.2.1⟩)) ?_
                      refine q_guard_yes rfl rfl ?_
                      refine q_val rfl rfl rfl (y_add rfl rfl (by simp only [inK]; omega)) ?_
                      refine q_guard_yes rfl rfl ?_
                      refine q_val rfl rfl rfl (y_sub rfl rfl (by simp only [inK]; omega)) ?_
                      refine q_guard_yes rfl rfl ?_
                      refine q_val rfl rfl rfl (y_gtr rfl rfl) ?_
                      refine q_val rfl rfl rfl (y_pick_f (v := (.bool _)) rfl rfl) ?_
                      refine q_nil ?_
                      refine s_forget [(0, (.slice _ _ _)), (10, (.slice _ _ _)), (18, (.pointer _)), (19, (.int _ _)), (21, (.pointer _)), (22, (.int _ _)), (83, (.slice _ _ _)), (84, (.int _ _)), (85, (.int _ _)), (89, (.slice _ _ _)), (90, (.int _ _)), (91, (.int _ _)), (96, (.slice _ _ _)), (97, (.int _ _)), (98, (.int _ _)), (159, (.bool _))] ⟨rfl, rfl, rfl, rfl, rfl, rfl, rfl, rfl, rfl, rfl, rfl, rfl, rfl, rfl, rfl, rfl, trivial⟩ (fun _f => ?_)
                      refine s_if rfl (fun h43 => ?_) (fun h44 => ?_)
                      · refine s_seq ?_
                        refine s_region ?_
                        have hnf : overV ks (u.bs.map BR.d) (os.getD ((u.k : Nat) : Int).toNat default).d = .error 1 := by rw [hov0, if_neg (by rw [hfe, hfv]; omega)]
                        refine o_val rfl rfl rfl (y_assign (v := (.slice _ _ _)) rfl) ?_
                        refine o_val rfl rfl rfl (y_assign (v := (.int _ _)) rfl) ?_
                        refine o_nil ?_
                        refine s_ret ?_
                        exact ⟨_, [], res2 rfl rfl rfl, .inl ⟨1, (if_neg (by rw [List.length_map]; omega)).trans (overs_bad (show u.k < os.length by omega) huo hnf), by decide, rfl, rfl⟩, sub_picks [] rfl⟩
                      · have hget : ∀ x : BR, (z.bs.set w.i x).getD ((w.i : Nat) : Int).toNat default = x := fun x => (getD_set' hwz).trans (if_pos rfl)
                        have hfit : fitsV ((ks.getD ((z.bs.getD ((w.i : Nat) : Int).toNat default).cs.getD ((z.i : Nat) : Int).toNat default).kind.toNat default).fs.getD (os.getD ((u.k : Nat) : Int).toNat default).field.toNat default) (os.getD ((u.k : Nat) : Int).toNat default).val := hfv.2 ⟨by omega, by omega⟩
                        have hov : overV ks (u.bs.map BR.d) (os.getD ((u.k : Nat) : Int).toNat default).d = .ok ((z.bs.map BR.d).set w.i ((z.bs.getD ((w.i : Nat) : Int).toNat default).ps, putC ((z.bs.getD ((w.i : Nat) : Int).toNat default).cs.map CR.d) z.i (os.getD ((u.k : Nat) : Int).toNat default).field (os.getD ((u.k : Nat) : Int).toNat default).val)) := by rw [hov0, if_pos (by rw [hfe]; exact hfit)]
                        refine s_skip ?_
                        refine s_take2 w.i z.i (by have := hzb.1; omega) hvg (by omega) ?_
                        refine s_drawn 1 (by kernel_rfl) ?_
                        refine d_val (i := 0) rfl (by kernel_rfl) (by kernel_rfl) (by kernel_rfl) rfl rfl rfl (y_field0 Try.runUnderlying35 rfl Try.sizeOf33 rfl rfl) ?_
                        refine d_val (i := 1) rfl (by kernel_rfl) (by kernel_rfl) (by kernel_rfl) rfl rfl rfl (y_load Try.isAgg33 rfl (cel_own 5 rfl rfl)) ?_
                        refine d_val (i := 2) rfl (by kernel_rfl) (by kernel_rfl) (by kernel_rfl) rfl rfl rfl (y_move (v := (.int _ _)) rfl) ?_
                        refine d_val (i := 3) rfl (by kernel_rfl) (by kernel_rfl) (by kernel_rfl) rfl rfl rfl (y_indexAddr Try.runUnderlying33 Try.sizeOf155 (some_at (sz := 1) encC_len (i := 0) hcelz (by omega)) rfl rfl (by omega)) ?_
                        refine d_val (i := 4) rfl (by kernel_rfl) (by kernel_rfl) (by kernel_rfl) rfl rfl rfl (y_fieldX (F := 1) Try.runUnderlying155 rfl Try.sizeOf22 rfl (some_at (sz := 1) encC_len (i := 0) hcelz (by omega)) rfl) ?_
                        refine d_val (i := 5) rfl (by kernel_rfl) (by kernel_rfl) (by kernel_rfl) rfl rfl rfl (y_load Try.isAgg22 rfl ((cels_at (sz := 2) encC_len ((hcelz).ms (inG_ext (j := 3) rfl)).up (by omega)).cel' (i := 1) rfl)) ?_
                        refine d_val (i := 6) rfl (by kernel_rfl) (by kernel_rfl) (by kernel_rfl) rfl rfl rfl (y_field0 Try.runUnderlying147 rfl Try.sizeOf145 rfl rfl) ?_
                        refine d_val (i := 7) rfl (by kernel_rfl) (by kernel_rfl) (by kernel_rfl) rfl rfl rfl (y_field0 Try.runUnderlying145 rfl Try.sizeOf3 rfl rfl) ?_
                        refine d_val (i := 8) rfl (by kernel_rfl) (by kernel_rfl) (by kernel_rfl) rfl rfl rfl (y_load Try.isAgg3 rfl (cel_own 4 rfl rfl)) ?_
                        refine d_val (i := 9) rfl (by kernel_rfl) (by kernel_rfl) (by kernel_rfl) rfl rfl rfl (y_field0 Try.runUnderlying147 rfl Try.sizeOf3 rfl rfl) ?_
                        refine d_val (i := 10) rfl (by kernel_rfl) (by kernel_rfl) (by kernel_rfl) rfl rfl rfl (y_load Try.isAgg3 rfl (cel_own 4 rfl rfl)) ?_
                        refine d_val (i := 11) rfl (by kernel_rfl) (by kernel_rfl) (by kernel_rfl) rfl rfl rfl (y_index1 Try.runUnderlying22 Try.sizeOf3 (hcz.1.some_of (by omega)) rfl rfl (by omega)) ?_
                        refine d_eff (k := 12) (n := 1) (m := 8) rfl (by kernel_rfl) rfl ?_
                        refine o_store_os (vs := [(.int _ _)]) 0 rfl hcz.1 Try.sizeOf3 rfl rfl rfl (by simp [Value.oneCell']) (by simp) (by first | omega | (rw [List.length_map]; simp only [List.length_cons, List.length_nil]; omega)) (fun E45 ho46 => ?_)
                        have ho47 := os_lay_int ho46 (by first | omega | (rw [List.length_map]; simp only [List.length_cons, List.length_nil]; omega))
                        clear ho46
                        refine o_nil ?_
                        refine d_val (i := 13) rfl (by kernel_rfl) (by kernel_rfl) (by kernel_rfl) rfl rfl rfl (y_assign (v := (.int _ _)) rfl) ?_
                        refine d_nil (n := 1) (m := 8) (by kernel_rfl) rfl ?_
                        refine s_region ?_
                        refine o_pull 2 ?_
                        refine o_pull 2 ?_
                        refine o_pull 2 ?_
                        refine o_put2 w.i z.i (by have := hzb.1; omega) (by omega) ?_
                        refine o_val rfl rfl rfl (y_add rfl rfl (by simp only [inK]; omega)) ?_
                        refine o_val rfl rfl rfl (y_move (v := (.int _ _)) rfl) ?_
                        refine o_nil ?_
                        exact ⟨LX14.mk (z.i + 1) 0 (z.bs.set w.i ((z.bs.getD ((w.i : Nat) : Int).toNat default).put ((z.bs.getD ((w.i : Nat) : Int).toNat default).cs.set z.i (newC ((z.bs.getD ((w.i : Nat) : Int).toNat default).cs.getD ((z.i : Nat) : Int).toNat default).kind ((z.bs.getD ((w.i : Nat) : Int).toNat default).cs.getD ((z.i : Nat) : Int).toNat default).A ((z.bs.getD ((w.i : Nat) : Int).toNat default).cs.getD ((z.i : Nat) : Int).toNat default).n ((z.bs.getD ((w.i : Nat) : Int).toNat default).cs.getD ((z.i : Nat) : Int).toNat default).c (((z.bs.getD ((w.i : Nat) : Int).toNat default).cs.getD ((z.i : Nat) : Int).toNat default).vs.set (os.getD ((u.k : Nat) : Int).toNat default).field.toNat (os.getD ((u.k : Nat) : Int).toNat default).val))))) (z.gs.set w.i (vg.set z.i E45).flatten), (by first | omega | (dsimp only; omega)), ⟨by dsimp only; omega, (flat_same (j := w.i)).trans hzf, by dsimp only; rw [List.length_set]; exact hzl, hzb.set hwz (hbz.put hvgl hvgc hzc ho47 (holds_set hczh (by omega) hfit)), .inr ⟨rfl, hov.trans (congrArg Except.ok (put_done z.bs w.i z.i (os.getD ((u.k : Nat) : Int).toNat default).field (os.getD ((u.k : Nat) : Int).toNat default).val ((z.bs.getD ((w.i : Nat) : Int).toNat default).cs.getD ((z.i : Nat) : Int).toNat default).A ((z.bs.getD ((w.i : Nat) : Int).toNat default).cs.getD ((z.i : Nat) : Int).toNat default).n ((z.bs.getD ((w.i : Nat) : Int).toNat default).cs.getD ((z.i : Nat) : Int).toNat default).c)), w.i, z.i, .inr ⟨rfl, Nat.lt_succ_self _⟩, hwst, hzst, hhit⟩, by dsimp only; rw [hget]; exact hz1, by dsimp only; rw [hget]; exact hz2, by dsimp only; rw [hget]; exact hz3, by dsimp only; rw [hget]; exact hz4, by dsimp only; rw [hget]; exact flatC_same.trans hz5⟩, ⟨rfl, (congrArg (Value.int .i64) (by (try dsimp only); omega)), rfl, rfl, rfl, rfl, rfl, rfl, rfl, rfl, rfl, rfl, rfl, rfl, trivial⟩, (sub_picks [0, 0, 0, 0, 0] rfl)⟩
          · refine s_exit ?_
            refine s_region ?_
            refine o_val rfl rfl rfl (y_add rfl rfl (by simp only [inK]; omega)) ?_
            refine o_val rfl rfl rfl (y_move (v := (.int _ _)) rfl) ?_
            refine o_nil ?_
            exact ⟨LX14.mk (w.i + 1) z.d z.bs z.gs, (by first | omega | (dsimp only; omega)), ⟨by dsimp only; omega, hzf, hzl, hzb, stat_row hzs (by have h1 := (stat_same hzs w.i).2.1; rw [bget, bget] at h1; simp only [BR.d, List.length_map] at h1; rw [bget]; simp only [BR.d, List.length_map]; have h2 : (z.bs.getD w.i default).cs.length = (z.bs.getD ((w.i : Nat) : Int).toNat default).cn := (hzb.2 w.i (by omega)).2.1.1; omega)⟩, ⟨rfl, (congrArg (Value.int .i64) (by (try dsimp only); omega)), rfl, rfl, rfl, rfl, rfl, rfl, rfl, rfl, trivial⟩, (sub_picks [0, 0, 0, 0] rfl)⟩
        · refine s_exit ?_
          refine s_seq ?_
          refine s_region ?_
          have hse := stat_end (by rw [show w.i = (u.bs.map BR.d).length by rw [List.length_map]; omega] at hws; exact hws)
          refine o_val rfl rfl rfl (y_move (v := (.int _ _)) rfl) ?_
          refine o_val rfl rfl rfl (y_neq rfl rfl) ?_
          refine o_nil ?_
          refine s_if rfl (fun h48 => ?_) (fun h49 => ?_)
          · have hov : overV ks (u.bs.map BR.d) (os.getD ((u.k : Nat) : Int).toNat default).d = .error 4 := by rcases hse with ⟨_, he⟩ | ⟨h0, _⟩; (· exact he); (· exact absurd h0 h48)
            have hd4 : w.d = 4 := by rcases hse with ⟨he, _⟩ | ⟨h0, _⟩; (· exact he); (· exact absurd h0 h48)
            refine s_seq ?_
            refine s_region ?_
            refine o_val rfl rfl rfl (y_move (v := (.int _ _)) rfl) ?_
            refine o_val rfl rfl rfl (y_assign (v := (.slice _ _ _)) rfl) ?_
            refine o_val rfl rfl rfl (y_assign (v := (.int _ _)) rfl) ?_
            refine o_nil ?_
            refine s_forget [(0, (.slice _ _ _)), (8, (.slice _ _ _)), (9, (.int _ _)), (10, (.slice _ _ _)), (83, (.slice _ _ _)), (84, (.int _ _)), (85, (.int _ _))] ⟨rfl, rfl, rfl, rfl, rfl, rfl, rfl, trivial⟩ (fun _f => ?_)
            refine s_ret ?_
            exact ⟨_, [], res2 rfl rfl rfl, .inl ⟨w.d, by rw [hd4]; exact (if_neg (by rw [List.length_map]; omega)).trans (overs_bad (show u.k < os.length by omega) huo hov), by rw [hd4]; decide, rfl, rfl⟩, sub_picks [] rfl⟩
          · have hov : overV ks (u.bs.map BR.d) (os.getD ((u.k : Nat) : Int).toNat default).d = .ok (w.bs.map BR.d) := by rcases hse with ⟨he, _⟩ | ⟨_, h0⟩; (· exact absurd (Decidable.not_not.1 h49) (by rw [he]; decide)); (· exact h0)
            refine s_skip ?_
            refine s_region ?_
            refine o_val rfl rfl rfl (y_add rfl rfl (by simp only [inK]; omega)) ?_
            refine o_val rfl rfl rfl (y_move (v := (.int _ _)) rfl) ?_
            refine o_nil ?_
            exact ⟨LV4.mk (u.k + 1) w.bs w.gs [], (by first | omega | (dsimp only; omega)), ⟨by dsimp only; omega, hwf.trans huf, hwl2.trans hul, hwb, overs_next (show u.k < os.length by omega) huo hov⟩, ⟨(congrArg (Value.int .i64) (by (try dsimp only); omega)), rfl, rfl, rfl, rfl, trivial⟩, (sub_picks [0, 0, 0] rfl)⟩
      · refine s_exit ?_
        refine s_seq ?_
        refine s_region ?_
        refine o_val rfl rfl rfl (y_move (v := (.slice _ _ _)) rfl) ?_
        refine o_val rfl rfl rfl (y_assign (v := (.slice _ _ _)) rfl) ?_
        refine o_val rfl rfl rfl (y_assign (v := (.int _ _)) rfl) ?_
        refine o_nil ?_
        refine s_ret ?_
        have huk2 : u.k = (os.map OvR.d).length := by rw [List.length_map]; omega
        rw [huk2, List.take_length] at huo
        exact ⟨_, [_, _, _], res2 rfl rfl rfl, .inr ⟨u.bs, u.gs, _, _, _, _, h.P, (if_neg (by rw [List.length_map]; omega)).trans huo, rfl, hul, huf ▸ hoo, hub2, rfl⟩, sub_picks [1, 0, 0] rfl⟩

end Go.Proofs.Ytacmbiohjiogiaa.K
