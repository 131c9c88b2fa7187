/- Walks over the package tourkeep4: templates are built as one entity and those of their parts. No condition beyond what each statement names. -/
import Derived.Test.YtacmbiohjiogiaaProg
import Derived.Test.YtacmbiohjiogiaaK14
import Derived.Test.YtacmbiohjiogiaaK19
import Derived.Test.YtacmbiohjiogiaaM1
import Derived.Test.YtacmbiohjiogiaaM2
import Derived.Test.YtacmbiohjiogiaaW1
import Derived.Test.YtacmbiohjiogiaaW2
import Derived.Test.YtacmbiohjiogiaaW3
import Derived.Test.YtacmbiohjiogiaaW4
import Derived.Test.YtacmbiohjiogiaaW5
import Derived.Test.YtacmbiohjiogiaaW6
import Derived.Test.YtacmbiohjiogiaaW7
import Derived.Test.YtacmbiohjiogiaaX1
import Derived.Test.YtacmbiohjiogiaaP1
import Derived.Test.YtacmbiohjiogiaaP2
import Derived.Test.YtacmbiohjiogiaaP3
import Derived.Test.YtacmbiohjiogiaaP4
import Derived.Test.YtacmbiohjiogiaaP5
import Derived.Test.YtacmbiohjiogiaaP6
import Derived.Test.YtacmbiohjiogiaaP7
set_option linter.unusedVariables false
set_option linter.unusedSimpArgs false
set_option maxRecDepth 100000
set_option maxHeartbeats 1000000
namespace Go.Proofs.Ytacmbiohjiogiaa.K
open Go.RowKit

theorem resV_nil (ks : List KR) (ts : List TV) (n : Nat) : resV ks ts n (([] : List OvR).map OvR.d) = .ok (rawV ks ts n) := by
  unfold resV; rw [if_neg (by decide)]; rfl
theorem rawTo_more (ks : List KR) (ts : List TV) (n k : Nat) : ∀ m, ∃ rest, rawTo ks ts n (k + m) = rawTo ks ts n k ++ rest
  | 0 => ⟨[], by simp⟩
  | m + 1 => by
    obtain ⟨rest, h⟩ := rawTo_more ks ts n k m
    exact ⟨_, by show rawTo ks ts n (k + m) ++ _ = _; rw [h, List.append_assoc]⟩
/-- Where the entities of a part are. -/
theorem part_at {ks : List KR} {l : List PfR} {n g : Nat} {bs : List BV} (h : goodT ks (l.map PfR.d) n) (hg : g < (l.getD n default).ps.length) (hu : useV ks (l.map PfR.d) ((l.getD n default).ps.getD g default).d = .ok bs) :
    (rawTo ks (l.map PfR.d) n g).length + bs.length ≤ (rawV ks (l.map PfR.d) n).length ∧ (rawTo ks (l.map PfR.d) n (g + 1)).length = (rawTo ks (l.map PfR.d) n g).length + bs.length ∧ ∀ u, u < bs.length → ((rawV ks (l.map PfR.d) n).getD ((rawTo ks (l.map PfR.d) n g).length + u) default).1 = (g : Int) :: (bs.getD u default).1 := by
  obtain ⟨rest, hr⟩ := rawTo_more ks (l.map PfR.d) n (g + 1) ((l.getD n default).ps.length - (g + 1))
  rw [show g + 1 + ((l.getD n default).ps.length - (g + 1)) = (l.getD n default).ps.length by omega, ← rawV_P] at hr
  have hs := rawTo_stepP h hg hu
  rw [hs] at hr
  refine ⟨by rw [hr]; simp only [List.length_append, List.length_map]; omega, by rw [hs]; simp, fun u hu' => ?_⟩
  rw [hr, List.append_assoc, List.getD_eq_getElem?_getD, List.getElem?_append_right (by omega), Nat.add_sub_cancel_left, List.getElem?_append_left (by simpa using hu'), List.getElem?_map, List.getElem?_eq_getElem hu', getD_at hu']
  rfl
theorem raw_first {ks : List KR} {ts : List TV} {n : Nat} : 0 < (rawV ks ts n).length ∧ ((rawV ks ts n).getD 0 default).1 = [] := by
  obtain ⟨rest, h⟩ := rawV_head ks ts n
  rw [h]; exact ⟨Nat.succ_pos _, rfl⟩
theorem catQ2 (a b : FQ) : catQ [a, b] = a.bs ++ b.bs := by simp [catQ]
theorem twoQ {p : FQ → Prop} {a b : FQ} (h1 : p a) (h2 : p b) : ∀ f ∈ [a, b], p f := by
  intro f hf
  simp only [List.mem_cons, List.not_mem_nil, or_false] at hf
  rcases hf with rfl | rfl
  · exact h1
  · exact h2

theorem GenKs_k0 (v0A : Option Addr) (v0n : Nat) (v0c : Nat) (w : World) : (Instr.build 174 ([(0, (.slice v0A v0n v0c))] : List (Nat × Value)).toArray).run Try.prog w = .ok (.agg #[.slice v0A v0n v0c]) w := by kernel_rfl
theorem GenKs_c {V : Mem} (A : Option Addr) (n c : Nat) (xs : List Int) (h : Cels V [] A (xs.map (.int .i64))) (hn : xs.length = n) (hc : n ≤ c) : CallS Try.prog 16 [.slice A n c].toArray V [] (fun r L' => ∃ (B : Option Addr) (c : Nat) (E P : Grp) (ks : List KR), r = .slice B ks.length c ∧ OS B ks.length c 58 2 ((ks).flatMap encK) E ∧ (∀ x ∈ ks, KOK (inG P) x) ∧ kindsG ks ∧ 1 ≤ ks.length ∧ L' = [E, P]) := by
  refine callS Try.func16 rfl rfl (fun w0 => ?_)
  refine s_seq ?_
  refine s_region ?_
  refine o_val rfl rfl rfl (y_assign (v := (.slice _ _ _)) rfl) ?_
  refine o_nil ?_
  refine s_seq ?_
  refine s_region ?_
  refine o_val rfl rfl rfl (y_move (v := (.slice _ _ _)) rfl) ?_
  refine o_val rfl rfl rfl (y_build (vs := [(0, .slice _ _ _)]) rfl (GenKs_k0 _ _ _)) ?_
  refine o_box (v := (.agg #[(.slice _ _ _)])) rfl rfl rfl (fun b1 => ?_)
  have hst : Strm V b1 (stgrp b1 A n c) := Strm.new h hn hc
  refine o_fn 1 (d := 6) rfl Try.call86 (GenK_c hst MSub.ext) rfl ?_
  rintro _ _ ⟨kB, kc, kE, kP, sG, kx, rfl, hko, hkx, hkg, hk1, hst, rfl⟩
  refine o_val rfl rfl rfl (y_assign (v := (.slice _ _ _)) rfl) ?_
  refine o_nil ?_
  refine s_ret ?_
  exact ⟨_, [_, _], res1 rfl rfl, ⟨_, _, _, _, kx, rfl, hko, hkx, hkg, hk1, rfl⟩, sub_picks [1, 1] rfl⟩

theorem PrefabCounts_k0 (v0 : Int) (w : World) : (Instr.buildSlice 22 1 ([(0, (.int .i64 v0))] : List (Nat × Value)).toArray).run Try.prog w = .ok (.slice (some ⟨w.heap.size, 0, none⟩) 1 1) { w with heap := w.heap.push (.cells ([.int .i64 v0] : List Value).toArray 3 (0, 0)) } := by kernel_rfl
theorem PrefabCounts_k1 (v0A : Option Addr) (v0n : Nat) (v0c : Nat) (v1A : Option Addr) (v1n : Nat) (v1c : Nat) (w : World) : (Instr.buildSlice 178 2 ([(0, (.slice v0A v0n v0c)), (1, (.slice v1A v1n v1c))] : List (Nat × Value)).toArray).run Try.prog w = .ok (.slice (some ⟨w.heap.size, 0, none⟩) 2 2) { w with heap := w.heap.push (.cells ([.slice v0A v0n v0c, .slice v1A v1n v1c] : List Value).toArray 22 (0, 0)) } := by kernel_rfl
theorem PrefabCounts_c {V : Mem} (A : Option Addr) (n c : Nat) (xs : List Int) (h : Cels V [] A (xs.map (.int .i64))) (hn : xs.length = n) (hc : n ≤ c) (m : Int) : CallS Try.prog 3 [.slice A n c, .int .i64 m].toArray V [] (fun r L' => r = .bool true ∧ L' = []) := by
  refine callS Try.func3 rfl rfl (fun w0 => ?_)
  refine s_seq ?_
  refine s_region ?_
  refine o_val rfl rfl rfl (y_assign (v := (.bool _)) rfl) ?_
  refine o_nil ?_
  refine s_seq ?_
  refine s_region ?_
  refine o_val rfl rfl rfl (y_move (v := (.slice _ _ _)) rfl) ?_
  refine o_fn 0 (d := 17) rfl Try.call16 (GenKs_c A n c xs h.here.down hn hc) rfl ?_
  rintro _ _ ⟨kA, kC, kE, kP, ks, rfl, hko, hkx, hkg, hk1, rfl⟩
  have hck := kindsG_ok hkg
  have hk4 := hkg.1
  refine o_val rfl rfl rfl (y_assign (v := (.slice _ _ _)) rfl) ?_
  refine o_nil ?_
  refine s_seq ?_
  refine s_region ?_
  refine o_val rfl rfl rfl (y_move (v := (.slice _ _ _)) rfl) ?_
  refine o_val rfl rfl rfl (y_move (v := (.slice _ _ _)) rfl) ?_
  refine o_fn 0 (d := 20) rfl Try.call17 (GenP_c kA ks.length kC ks ⟨rfl, hko.2.1, by omega, (hko.cels (j := 0) rfl).down, fun x hx => (hkx x hx).sub (inG_ext (j := 1) rfl)⟩ hkg A n c xs h.here.down hn hc) rfl ?_
  rintro _ _ ⟨lA, lC, l, lE, lP, rfl, hlo, hlp, hlk, hl1, rfl⟩
  have hl4 := hlk.1
  refine o_val rfl rfl rfl (y_assign (v := (.slice _ _ _)) rfl) ?_
  refine o_nil ?_
  refine s_seq ?_
  refine s_region ?_
  refine o_val rfl rfl rfl (y_move (v := (.int _ _)) rfl) ?_
  refine o_val rfl rfl rfl (y_move (v := (.slice _ _ _)) rfl) ?_
  refine o_val rfl rfl rfl (y_len Try.runUnderlying25 rfl) ?_
  refine o_fn 0 (d := 24) rfl Try.call18 (Below_c _ _ (by omega)) rfl ?_
  rintro _ _ ⟨z, rfl, hz0, hz1, rfl⟩
  obtain ⟨zn, rfl⟩ : ∃ zn : Nat, z = zn := ⟨z.toNat, by omega⟩
  have hzn : zn < l.length := by omega
  refine o_val rfl rfl rfl (y_assign (v := (.int _ _)) rfl) ?_
  refine o_nil ?_
  refine s_forget [(1, (.int _ _)), (4, (.bool _)), (5, (.slice _ _ _)), (6, (.slice _ _ _))] ⟨rfl, rfl, rfl, rfl, trivial⟩ (fun _f => ?_)
  refine s_seq ?_
  refine s_region ?_
  refine o_val rfl rfl rfl (y_move (v := (.slice _ _ _)) rfl) ?_
  refine o_val rfl rfl rfl (y_move (v := (.slice _ _ _)) rfl) ?_
  refine o_val rfl rfl rfl (y_move (v := (.int _ _)) rfl) ?_
  refine o_fn 0 (d := 29) rfl Try.call19 (Build_c kA ks.length kC ks ⟨rfl, hko.2.1, by omega, (hko.cels (j := 2) rfl).down, fun x hx => (hkx x hx).sub (inG_ext (j := 3) rfl)⟩ hck lA l.length lC l ⟨rfl, hlo.2.1, by omega, (hlo.cels (j := 0) rfl).down, fun x hx => (hlp x hx).sub (inG_ext (j := 1) rfl)⟩ hlk zn hzn (zn : Int) rfl none 0 0 [] ⟨rfl, Nat.le_refl _, Nat.zero_le _, Cels.nil, fun y hy => absurd hy List.not_mem_nil⟩) rfl ?_
  rintro _ _ (⟨e, hx, he, rfl, rfl⟩ | ⟨bs', gs', B', bn', C', E', P', hx, rfl, hbn, ho', hb', rfl⟩)
  · exact absurd ((resV_nil ks (l.map PfR.d) zn).symm.trans hx) (by simp)
  · have hbd := Except.ok.inj (hx.symm.trans (resV_nil ks (l.map PfR.d) zn))
    have hrf := raw_first (ks := ks) (ts := (l.map PfR.d)) (n := zn)
    have hbl : (rawV ks (l.map PfR.d) zn).length = bn' := by rw [← hbd, List.length_map]; exact hbn
    have hb0 : 0 < bs'.length := by omega
    have hg := hlk.2.1
    have hb15 := rawV_15 (fun i hi => hg i (by omega)) (show zn ≤ 3 by omega)
    have hp0 : (bs'.getD (0 : Int).toNat default).pn = 0 := by have h1 := (hb'.2 0 hb0).1.1; have h2 := hrf.2; rw [← hbd, bget] at h2; have h3 : (bs'.getD 0 default).ps = [] := h2; rw [h3] at h1; exact h1.symm
    refine o_val rfl rfl rfl (y_move (v := (.tuple #[(.slice _ _ _), (.int _ _)])) rfl) ?_
    refine o_val rfl rfl rfl (y_extract (v := (.slice _ _ _)) rfl rfl) ?_
    refine o_val rfl rfl rfl (y_extract (v := (.int _ _)) rfl rfl) ?_
    refine o_val rfl rfl rfl (y_assign (v := (.slice _ _ _)) rfl) ?_
    refine o_val rfl rfl rfl (y_assign (v := (.int _ _)) rfl) ?_
    refine o_nil ?_
    refine s_seq ?_
    refine s_seq ?_
    refine s_region ?_
    refine o_fn 0 (d := 32) rfl Try.call20 (builds_c) rfl ?_
    rintro _ _ ⟨rfl, rfl⟩
    refine o_val rfl rfl rfl (y_notb rfl) ?_
    refine o_val rfl rfl rfl (y_move (v := (.bool _)) rfl) ?_
    refine o_guard_yes rfl rfl ?_
    refine o_val rfl rfl rfl (y_move (v := (.int _ _)) rfl) ?_
    refine o_guard_yes rfl rfl ?_
    refine o_split rfl rfl rfl (y_neq rfl rfl) (fun p1 => ?_) (fun p2 => ?_)
    · exact absurd rfl p1
    · refine o_val rfl rfl rfl (y_pick_f (v := (.bool _)) rfl rfl) ?_
      refine o_val rfl rfl rfl (y_move (v := (.bool _)) rfl) ?_
      refine o_guard_yes rfl rfl ?_
      refine o_val rfl rfl rfl (y_move (v := (.slice _ _ _)) rfl) ?_
      refine o_guard_yes rfl rfl ?_
      refine o_val rfl rfl rfl (y_len Try.runUnderlying28 rfl) ?_
      refine o_guard_yes rfl rfl ?_
      refine o_split rfl rfl rfl (y_eql rfl rfl) (fun p3 => ?_) (fun p4 => ?_)
      · exfalso; omega
      · refine o_val rfl rfl rfl (y_pick_f (v := (.bool _)) rfl rfl) ?_
        refine o_val rfl rfl rfl (y_move (v := (.bool _)) rfl) ?_
        refine o_guard_yes rfl rfl ?_
        refine o_val rfl rfl rfl (y_move (v := (.slice _ _ _)) rfl) ?_
        refine o_guard_yes rfl rfl ?_
        refine o_val rfl rfl rfl (y_indexAddr Try.runUnderlying28 Try.sizeOf35 (ho'.some_of (by omega)) rfl rfl (by omega)) ?_
        refine o_guard_yes rfl rfl ?_
        refine o_val rfl rfl rfl (y_fieldX (F := 0) Try.runUnderlying35 rfl Try.sizeOf22 rfl (ho'.some_of (by omega)) rfl) ?_
        refine o_guard_yes rfl rfl ?_
        refine o_val rfl rfl rfl (y_load Try.isAgg22 rfl ((cels_at (sz := 2) encB_len (ho'.cels (j := 0) rfl) (by omega)).cel' (i := 0) rfl)) ?_
        refine o_guard_yes rfl rfl ?_
        refine o_val rfl rfl rfl (y_len Try.runUnderlying22 rfl) ?_
        refine o_guard_yes rfl rfl ?_
        refine o_val rfl rfl rfl (y_gtr rfl rfl) ?_
        refine o_val rfl rfl rfl (y_pick_f (v := (.bool _)) rfl rfl) ?_
        refine o_nil ?_
        refine s_forget [(1, (.int _ _)), (4, (.bool _)), (5, (.slice _ _ _)), (6, (.slice _ _ _)), (7, (.slice _ _ _)), (50, (.bool _))] ⟨rfl, rfl, rfl, rfl, rfl, rfl, trivial⟩ (fun _f => ?_)
        refine s_if rfl (fun h5 => ?_) (fun h6 => ?_)
        · exfalso; omega
        · refine s_skip ?_
          refine s_seq ?_
          refine s_region ?_
          refine o_val rfl rfl rfl (y_assign (v := (.int _ _)) rfl) ?_
          refine o_nil ?_
          refine s_seq ?_
          refine s_seq ?_
          refine s_region ?_
          have hpf := hlp _ (getD_mem' hzn : (l.getD ((zn : Nat) : Int).toNat default) ∈ l)
          have hpl := hpf.2.1
          have hpb := hpf.2.2.2.1
          refine o_val rfl rfl rfl (y_move (v := (.slice _ _ _)) rfl) ?_
          refine o_val rfl rfl rfl (y_move (v := (.int _ _)) rfl) ?_
          refine o_val rfl rfl rfl (y_indexAddr Try.runUnderlying25 Try.sizeOf38 (hlo.some_of (by omega)) rfl rfl (by omega)) ?_
          refine o_val rfl rfl rfl (y_fieldX (F := 1) Try.runUnderlying38 rfl Try.sizeOf36 rfl (hlo.some_of (by omega)) rfl) ?_
          refine o_val rfl rfl rfl (y_load Try.isAgg36 rfl ((cels_at (sz := 2) encPf_len (hlo.cels (j := 3) rfl) (by omega)).cel' (i := 1) rfl)) ?_
          refine o_val rfl rfl rfl (y_len Try.runUnderlying36 rfl) ?_
          refine o_val rfl rfl rfl (y_move (v := (.int _ _)) rfl) ?_
          refine o_nil ?_
          refine s_block ?_
          refine s_loopK (γ := Nat) [(5, (.slice _ _ _)), (6, (.slice _ _ _)), (7, (.slice _ _ _)), (55, (.slice _ _ _)), (56, (.int _ _))] [_, _, _, _, _, _, _] (fun g => [(9, .int .i64 (((rawTo ks (l.map PfR.d) zn g).length : Nat) : Int)), (57, .int .i64 g)]) (fun g => []) (fun g => g ≤ (l.getD ((zn : Nat) : Int).toNat default).pn) (fun g => (l.getD ((zn : Nat) : Int).toNat default).pn - g) (0) ⟨rfl, rfl, rfl, rfl, rfl, rfl, rfl, trivial⟩ (sub_picks [0, 0, 0, 0, 0, 0, 0] rfl) ?_ ?_
          · exact Nat.zero_le _
          intro g _f hI
          have hgl := hI
          refine s_seq ?_
          refine s_region ?_
          refine o_val rfl rfl rfl (y_lss rfl rfl) ?_
          refine o_nil ?_
          refine s_seq ?_
          refine s_if rfl (fun h7 => ?_) (fun h8 => ?_)
          · refine s_skip ?_
            refine s_seq ?_
            refine s_block ?_
            refine s_seq ?_
            refine s_region ?_
            refine o_val rfl rfl rfl (y_move (v := (.int _ _)) rfl) ?_
            refine o_val rfl rfl rfl (y_indexAddr Try.runUnderlying36 Try.sizeOf41 (some_at (sz := 1) encPa_len (i := 0) hpf.2.2.2.2.1 (by omega)) rfl rfl (by omega)) ?_
            refine o_val rfl rfl rfl (y_loads (cs := [_, _]) Try.isAgg41 Try.sizeOf41 rfl (by unfold idx; rw [Option.isSome_map]; exact some_at (sz := 1) encPa_len (i := 0) hpf.2.2.2.2.1 (by omega)) rfl (cels_at (sz := 2) encPa_len ((hpf.2.2.2.2.1).ms (inG_ext (j := 4) rfl)).up (by omega))) ?_
            refine o_alloc rfl Try.zeroValue41 rfl (fun b9 => ?_)
            refine o_val rfl rfl rfl (y_assign (v := (.int _ _)) rfl) ?_
            refine o_stores (vs := [(.int _ _), (.slice _ _ _)]) 7 rfl Try.sizeOf41 rfl rfl rfl (by simp [Value.oneCell']) (by simp) ?_
            refine o_nil ?_
            refine s_seq ?_
            refine s_region ?_
            have hqk := good_at (ks := ks) (hg zn hzn) (show g < (l.getD ((zn : Nat) : Int).toNat default).ps.length by omega)
            obtain ⟨hq0, hq1, hq2, bu, hub⟩ := hqk
            have hqo := hpf.2.2.2.2.2 _ (getD_mem' (show g < (l.getD ((zn : Nat) : Int).toNat default).ps.length by omega) : ((l.getD ((zn : Nat) : Int).toNat default).ps.getD ((g : Nat) : Int).toNat default) ∈ (l.getD ((zn : Nat) : Int).toNat default).ps)
            have hq0' : 0 ≤ ((l.getD ((zn : Nat) : Int).toNat default).ps.getD ((g : Nat) : Int).toNat default).of := hq0
            have hq1' : ((l.getD ((zn : Nat) : Int).toNat default).ps.getD ((g : Nat) : Int).toNat default).of < zn := hq1
            have hq2' : ((l.getD ((zn : Nat) : Int).toNat default).ps.getD ((g : Nat) : Int).toNat default).os.length ≤ 40 := hq2
            have hres : resV ks (l.map PfR.d) ((l.getD ((zn : Nat) : Int).toNat default).ps.getD ((g : Nat) : Int).toNat default).of.toNat (((l.getD ((zn : Nat) : Int).toNat default).ps.getD ((g : Nat) : Int).toNat default).os.map OvR.d) = useV ks (l.map PfR.d) ((l.getD ((zn : Nat) : Int).toNat default).ps.getD ((g : Nat) : Int).toNat default).d := if_neg (by rw [List.length_map]; omega)
            refine o_val rfl rfl rfl (y_move (v := (.slice _ _ _)) rfl) ?_
            refine o_val rfl rfl rfl (y_move (v := (.slice _ _ _)) rfl) ?_
            refine o_val rfl rfl rfl (y_field0 Try.runUnderlying41 rfl Try.sizeOf3 rfl rfl) ?_
            refine o_val rfl rfl rfl (y_load Try.isAgg3 rfl (cel_own 7 rfl rfl)) ?_
            refine o_val rfl rfl rfl (y_field0 Try.runUnderlying41 rfl Try.sizeOf39 rfl rfl) ?_
            refine o_val rfl rfl rfl (y_load Try.isAgg39 rfl (cel_own 7 rfl rfl)) ?_
            refine o_fn 0 (d := 69) rfl Try.call19 (Build_c kA ks.length kC ks ⟨rfl, hko.2.1, by omega, (hko.cels (j := 5) rfl).down, fun x hx => (hkx x hx).sub (inG_ext (j := 6) rfl)⟩ hck lA l.length lC l ⟨rfl, hlo.2.1, by omega, (hlo.cels (j := 3) rfl).down, fun x hx => (hlp x hx).sub (inG_ext (j := 4) rfl)⟩ hlk ((l.getD ((zn : Nat) : Int).toNat default).ps.getD ((g : Nat) : Int).toNat default).of.toNat (by omega) ((l.getD ((zn : Nat) : Int).toNat default).ps.getD ((g : Nat) : Int).toNat default).of (by omega) ((l.getD ((zn : Nat) : Int).toNat default).ps.getD ((g : Nat) : Int).toNat default).A ((l.getD ((zn : Nat) : Int).toNat default).ps.getD ((g : Nat) : Int).toNat default).n ((l.getD ((zn : Nat) : Int).toNat default).ps.getD ((g : Nat) : Int).toNat default).c ((l.getD ((zn : Nat) : Int).toNat default).ps.getD ((g : Nat) : Int).toNat default).os (OsOK.sub hqo (inG_ext (j := 4) rfl))) rfl ?_
            rintro _ _ (⟨e, hx, he, rfl, rfl⟩ | ⟨bs'2, gs'2, B'2, bn'2, C'2, E'2, P'2, hx2, rfl, hbn2, ho'2, hb'2, rfl⟩)
            · exact absurd (hx.symm.trans (hres.trans hub)) (by simp)
            · have hux : useV ks (l.map PfR.d) ((l.getD ((zn : Nat) : Int).toNat default).ps.getD ((g : Nat) : Int).toNat default).d = .ok (bs'2.map BR.d) := hres.symm.trans hx2
              obtain ⟨hpa1, hpa2, hpa3⟩ := part_at (g := g) (n := zn) (hg zn hzn) (show g < (l.getD zn default).ps.length from (show g < (l.getD ((zn : Nat) : Int).toNat default).ps.length by omega)) hux
              rw [List.length_map] at hpa1 hpa2
              refine o_val rfl rfl rfl (y_move (v := (.tuple #[(.slice _ _ _), (.int _ _)])) rfl) ?_
              refine o_val rfl rfl rfl (y_extract (v := (.slice _ _ _)) rfl rfl) ?_
              refine o_val rfl rfl rfl (y_extract (v := (.int _ _)) rfl rfl) ?_
              refine o_val rfl rfl rfl (y_assign (v := (.slice _ _ _)) rfl) ?_
              refine o_val rfl rfl rfl (y_assign (v := (.int _ _)) rfl) ?_
              refine o_nil ?_
              refine s_forget [(5, (.slice _ _ _)), (6, (.slice _ _ _)), (7, (.slice _ _ _)), (9, (.int _ _)), (10, (.int _ _)), (12, (.slice _ _ _)), (13, (.int _ _)), (55, (.slice _ _ _)), (56, (.int _ _)), (57, (.int _ _))] ⟨rfl, rfl, rfl, rfl, rfl, rfl, rfl, rfl, rfl, rfl, trivial⟩ (fun _f => ?_)
              refine s_seq ?_
              refine s_seq ?_
              refine s_region ?_
              refine o_val rfl rfl rfl (y_move (v := (.int _ _)) rfl) ?_
              refine o_split rfl rfl rfl (y_neq rfl rfl) (fun p10 => ?_) (fun p11 => ?_)
              · exact absurd rfl p10
              · refine o_val rfl rfl rfl (y_move (v := (.bool _)) rfl) ?_
                refine o_guard_yes rfl rfl ?_
                refine o_val rfl rfl rfl (y_move (v := (.int _ _)) rfl) ?_
                refine o_guard_yes rfl rfl ?_
                refine o_val rfl rfl rfl (y_move (v := (.slice _ _ _)) rfl) ?_
                refine o_guard_yes rfl rfl ?_
                refine o_val rfl rfl rfl (y_len Try.runUnderlying28 rfl) ?_
                refine o_guard_yes rfl rfl ?_
                refine o_val rfl rfl rfl (y_add rfl rfl (by simp only [inK]; omega)) ?_
                refine o_guard_yes rfl rfl ?_
                refine o_val rfl rfl rfl (y_move (v := (.slice _ _ _)) rfl) ?_
                refine o_guard_yes rfl rfl ?_
                refine o_val rfl rfl rfl (y_len Try.runUnderlying28 rfl) ?_
                refine o_guard_yes rfl rfl ?_
                refine o_val rfl rfl rfl (y_gtr rfl rfl) ?_
                refine o_val rfl rfl rfl (y_pick_f (v := (.bool _)) rfl rfl) ?_
                refine o_nil ?_
                refine s_if rfl (fun h12 => ?_) (fun h13 => ?_)
                · exfalso; omega
                · refine s_skip ?_
                  refine s_seq ?_
                  refine s_seq ?_
                  refine s_region ?_
                  refine o_val rfl rfl rfl (y_move (v := (.slice _ _ _)) rfl) ?_
                  refine o_val rfl rfl rfl (y_len Try.runUnderlying28 rfl) ?_
                  refine o_val rfl rfl rfl (y_move (v := (.int _ _)) rfl) ?_
                  refine o_nil ?_
                  refine s_forget [(5, (.slice _ _ _)), (6, (.slice _ _ _)), (7, (.slice _ _ _)), (9, (.int _ _)), (10, (.int _ _)), (12, (.slice _ _ _)), (55, (.slice _ _ _)), (56, (.int _ _)), (57, (.int _ _)), (83, (.slice _ _ _)), (84, (.int _ _)), (85, (.int _ _))] ⟨rfl, rfl, rfl, rfl, rfl, rfl, rfl, rfl, rfl, rfl, rfl, rfl, trivial⟩ (fun _f => ?_)
                  refine s_block ?_
                  refine s_loopK (γ := Nat) [(5, (.slice _ _ _)), (6, (.slice _ _ _)), (7, (.slice _ _ _)), (9, (.int _ _)), (10, (.int _ _)), (12, (.slice _ _ _)), (55, (.slice _ _ _)), (56, (.int _ _)), (57, (.int _ _)), (83, (.slice _ _ _)), (84, (.int _ _))] [_, _, _, _, _, _, _, _, _, _] (fun u => [(85, .int .i64 u)]) (fun u => []) (fun u => u ≤ bn'2) (fun u => bn'2 - u) (0) ⟨rfl, rfl, rfl, rfl, rfl, rfl, rfl, rfl, rfl, rfl, rfl, rfl, trivial⟩ (sub_picks [0, 0, 0, 0, 0, 0, 0, 0, 0, 0] rfl) ?_ ?_
                  · exact Nat.zero_le _
                  intro u _f hJ
                  have hul := hJ
                  refine s_seq ?_
                  refine s_region ?_
                  refine o_val rfl rfl rfl (y_lss rfl rfl) ?_
                  refine o_nil ?_
                  refine s_seq ?_
                  refine s_if rfl (fun h14 => ?_) (fun h15 => ?_)
                  · refine s_skip ?_
                    refine s_seq ?_
                    refine s_block ?_
                    refine s_seq ?_
                    refine s_region ?_
                    refine o_val rfl rfl rfl (y_move (v := (.int _ _)) rfl) ?_
                    refine o_val rfl rfl rfl (y_indexAddr Try.runUnderlying28 Try.sizeOf35 (ho'2.some_of (by omega)) rfl rfl (by omega)) ?_
                    refine o_val rfl rfl rfl (y_loads (cs := [_, _]) Try.isAgg35 Try.sizeOf35 rfl (by unfold idx; rw [Option.isSome_map]; exact ho'2.some_of (by omega)) rfl (cels_at (sz := 2) encB_len (ho'2.cels (j := 0) rfl) (by omega))) ?_
                    refine o_alloc rfl Try.zeroValue35 rfl (fun b16 => ?_)
                    refine o_val rfl rfl rfl (y_assign (v := (.int _ _)) rfl) ?_
                    refine o_stores (vs := [(.slice _ _ _), (.slice _ _ _)]) 10 rfl Try.sizeOf35 rfl rfl rfl (by simp [Value.oneCell']) (by simp) ?_
                    refine o_nil ?_
                    refine s_norm [_, _, _, _, _, _, _, _, _, _, [(_, .cells [(.slice _ _ _), (.slice _ _ _)].toArray 35 (0, 0))]] rfl ?_
                    refine s_seq ?_
                    refine s_drawn 0 (by kernel_rfl) ?_
                    have hyb : BOK ks (inG P'2) (gs'2.getD u []) (bs'2.getD ((u : Nat) : Int).toNat default) := hb'2.2 u (by omega)
                    have hyl := hyb.1.1
                    have hyx := hyb.1.2.2.1
                    have hbe : BOK ks (inG P') (gs'.getD ((rawTo ks (l.map PfR.d) zn g).length + u) []) (bs'.getD ((((rawTo ks (l.map PfR.d) zn g).length : Nat) : Int) + ((u : Nat) : Int)).toNat default) := hb'.2 ((rawTo ks (l.map PfR.d) zn g).length + u) (by omega)
                    have hpe : (bs'.getD ((((rawTo ks (l.map PfR.d) zn g).length : Nat) : Int) + ((u : Nat) : Int)).toNat default).ps = ((g : Nat) : Int) :: (bs'2.getD ((u : Nat) : Int).toNat default).ps := by have h1 := hpa3 u (by rw [List.length_map]; omega); rw [← hbd, bget, bget] at h1; exact h1
                    refine d_val (i := 0) rfl (by kernel_rfl) (by kernel_rfl) (by kernel_rfl) rfl rfl rfl (y_move (v := (.slice _ _ _)) rfl) ?_
                    refine d_val (i := 1) rfl (by kernel_rfl) (by kernel_rfl) (by kernel_rfl) rfl rfl rfl (y_move (v := (.int _ _)) rfl) ?_
                    refine d_val (i := 2) rfl (by kernel_rfl) (by kernel_rfl) (by kernel_rfl) rfl rfl rfl (y_move (v := (.int _ _)) rfl) ?_
                    refine d_val (i := 3) rfl (by kernel_rfl) (by kernel_rfl) (by kernel_rfl) rfl rfl rfl (y_add rfl rfl (by simp only [inK]; omega)) ?_
                    refine d_val (i := 4) rfl (by kernel_rfl) (by kernel_rfl) (by kernel_rfl) rfl rfl rfl (y_indexAddr Try.runUnderlying28 Try.sizeOf35 (ho'.some_of (by omega)) rfl rfl (by omega)) ?_
                    refine d_val (i := 5) rfl (by kernel_rfl) (by kernel_rfl) (by kernel_rfl) rfl rfl rfl (y_fieldX (F := 0) Try.runUnderlying35 rfl Try.sizeOf22 rfl (ho'.some_of (by omega)) rfl) ?_
                    refine d_val (i := 6) rfl (by kernel_rfl) (by kernel_rfl) (by kernel_rfl) rfl rfl rfl (y_load Try.isAgg22 rfl ((cels_at (sz := 2) encB_len (ho'.cels (j := 3) rfl) (by omega)).cel' (i := 0) rfl)) ?_
                    refine d_val (i := 7) rfl (by kernel_rfl) (by kernel_rfl) (by kernel_rfl) rfl rfl rfl (y_move (v := (.int _ _)) rfl) ?_
                    refine d_val (i := 9) rfl (by kernel_rfl) (by kernel_rfl) (by kernel_rfl) rfl rfl rfl (y_field0 Try.runUnderlying35 rfl Try.sizeOf22 rfl rfl) ?_
                    refine d_val (i := 10) rfl (by kernel_rfl) (by kernel_rfl) (by kernel_rfl) rfl rfl rfl (y_load Try.isAgg22 rfl (cel_own 10 rfl rfl)) ?_
                    refine d_eff (k := 8) (n := 0) (m := 11) rfl (by kernel_rfl) rfl ?_
                    refine o_lit (vs := [(0, .int _ _)]) rfl rfl (PrefabCounts_k0 _) (fun b17 => ?_)
                    refine o_nil ?_
                    refine d_eff (k := 11) (n := 0) (m := 11) rfl (by kernel_rfl) rfl ?_
                    refine o_lit (vs := [(0, .slice _ _ _), (1, .slice _ _ _)]) rfl rfl (PrefabCounts_k1 _ _ _ _ _ _) (fun b18 => ?_)
                    refine o_nil ?_
                    refine d_eff (k := 12) (n := 0) (m := 11) rfl (by kernel_rfl) rfl ?_
                    refine o_fn 0 (d := 102) rfl Try.call22 (ConcatQ_c _ 2 2 [FQ.mk (some ⟨b17, 0, none⟩) 1 1 [((g : Nat) : Int)], FQ.mk (bs'2.getD ((u : Nat) : Int).toNat default).pA (bs'2.getD ((u : Nat) : Int).toNat default).pn (bs'2.getD ((u : Nat) : Int).toNat default).pc (bs'2.getD ((u : Nat) : Int).toNat default).ps] (cels_own 12 rfl rfl).down rfl (by decide) (twoQ ⟨rfl, Nat.le_refl _, (cels_own 11 rfl rfl).down⟩ ⟨hyb.1.1, hyb.1.2.1, hyb.1.2.2.2.ms (inG_ext (j := 2) rfl)⟩) (by rw [catQ2]; simp only [List.length_append, List.length_singleton]; omega)) rfl ?_
                    rintro _ _ ⟨cA, cc, cE, rfl, hco, rfl⟩
                    have hcat : catQ [FQ.mk (some ⟨b17, 0, none⟩) 1 1 [((g : Nat) : Int)], FQ.mk (bs'2.getD ((u : Nat) : Int).toNat default).pA (bs'2.getD ((u : Nat) : Int).toNat default).pn (bs'2.getD ((u : Nat) : Int).toNat default).pc (bs'2.getD ((u : Nat) : Int).toNat default).ps] = ((g : Nat) : Int) :: (bs'2.getD ((u : Nat) : Int).toNat default).ps := by rw [catQ2]; rfl
                    rw [hcat] at hco ⊢
                    refine o_nil ?_
                    refine d_eff (k := 13) (n := 1) (m := 11) rfl (by kernel_rfl) rfl ?_
                    refine o_fn 0 (d := 103) rfl Try.call21 (EqualI_c (bs'.getD ((((rawTo ks (l.map PfR.d) zn g).length : Nat) : Int) + ((u : Nat) : Int)).toNat default).pA (bs'.getD ((((rawTo ks (l.map PfR.d) zn g).length : Nat) : Int) + ((u : Nat) : Int)).toNat default).pn (bs'.getD ((((rawTo ks (l.map PfR.d) zn g).length : Nat) : Int) + ((u : Nat) : Int)).toNat default).pc (bs'.getD ((((rawTo ks (l.map PfR.d) zn g).length : Nat) : Int) + ((u : Nat) : Int)).toNat default).ps (hbe.1.2.2.2.ms (inG_ext (j := 6) rfl)) hbe.1.1 cA (((g : Nat) : Int) :: (bs'2.getD ((u : Nat) : Int).toNat default).ps).length cc (((g : Nat) : Int) :: (bs'2.getD ((u : Nat) : Int).toNat default).ps) (hco.cels (j := 0) rfl).down rfl (by have := hbe.1.2.2.1; omega)) rfl ?_
                    rintro _ _ ⟨rfl, rfl⟩
                    refine o_nil ?_
                    refine d_val (i := 14) rfl (by kernel_rfl) (by kernel_rfl) (by kernel_rfl) rfl rfl rfl (y_not rfl) ?_
                    refine d_nil (n := 1) (m := 11) (by kernel_rfl) rfl ?_
                    refine s_forget [(5, (.slice _ _ _)), (6, (.slice _ _ _)), (7, (.slice _ _ _)), (9, (.int _ _)), (10, (.int _ _)), (12, (.slice _ _ _)), (55, (.slice _ _ _)), (56, (.int _ _)), (57, (.int _ _)), (83, (.slice _ _ _)), (84, (.int _ _)), (85, (.int _ _)), (104, (.bool _))] ⟨rfl, rfl, rfl, rfl, rfl, rfl, rfl, rfl, rfl, rfl, rfl, rfl, rfl, trivial⟩ (fun _f => ?_)
                    refine s_if rfl (fun h19 => ?_) (fun h20 => ?_)
                    · exact absurd hpe h19
                    · refine s_skip ?_
                      refine s_region ?_
                      refine o_val rfl rfl rfl (y_add rfl rfl (by simp only [inK]; omega)) ?_
                      refine o_val rfl rfl rfl (y_move (v := (.int _ _)) rfl) ?_
                      refine o_nil ?_
                      exact ⟨u + 1, (by first | omega | (dsimp only; omega)), by omega, ⟨(congrArg (Value.int .i64) (by omega)), rfl, rfl, rfl, rfl, rfl, rfl, rfl, rfl, rfl, rfl, rfl, trivial⟩, (sub_picks [1, 1, 1, 1, 1, 1, 1, 1, 1, 1] rfl)⟩
                  · refine s_exit ?_
                    refine s_region ?_
                    refine o_val rfl rfl rfl (y_move (v := (.int _ _)) rfl) ?_
                    refine o_val rfl rfl rfl (y_move (v := (.slice _ _ _)) rfl) ?_
                    refine o_val rfl rfl rfl (y_len Try.runUnderlying28 rfl) ?_
                    refine o_val rfl rfl rfl (y_add rfl rfl (by simp only [inK]; omega)) ?_
                    refine o_val rfl rfl rfl (y_assign (v := (.int _ _)) rfl) ?_
                    refine o_nil ?_
                    refine s_forget [(5, (.slice _ _ _)), (6, (.slice _ _ _)), (7, (.slice _ _ _)), (9, (.int _ _)), (55, (.slice _ _ _)), (56, (.int _ _)), (57, (.int _ _))] ⟨rfl, rfl, rfl, rfl, rfl, rfl, rfl, trivial⟩ (fun _f => ?_)
                    refine s_region ?_
                    refine o_val rfl rfl rfl (y_add rfl rfl (by simp only [inK]; omega)) ?_
                    refine o_val rfl rfl rfl (y_move (v := (.int _ _)) rfl) ?_
                    refine o_nil ?_
                    exact ⟨g + 1, (by first | omega | (dsimp only; omega)), by omega, ⟨(congrArg (Value.int .i64) (by rw [hpa2]; omega)), (congrArg (Value.int .i64) (by omega)), rfl, rfl, rfl, rfl, rfl, trivial⟩, (sub_picks [3, 3, 3, 3, 3, 3, 3] rfl)⟩
          · refine s_exit ?_
            refine s_seq ?_
            refine s_region ?_
            refine o_val rfl rfl rfl (y_move (v := (.int _ _)) rfl) ?_
            refine o_val rfl rfl rfl (y_move (v := (.slice _ _ _)) rfl) ?_
            refine o_val rfl rfl rfl (y_len Try.runUnderlying28 rfl) ?_
            refine o_val rfl rfl rfl (y_eql rfl rfl) ?_
            refine o_val rfl rfl rfl (y_assign (v := (.bool _)) rfl) ?_
            refine o_nil ?_
            refine s_ret ?_
            have hge : rawTo ks (l.map PfR.d) zn g = rawV ks (l.map PfR.d) zn := by rw [rawV_P]; exact congrArg (rawTo ks (l.map PfR.d) zn) (show g = (l.getD zn default).ps.length from (show g = (l.getD ((zn : Nat) : Int).toNat default).ps.length by omega))
            exact ⟨_, [], res1 rfl rfl, ⟨congrArg Value.bool (decide_eq_true (by rw [hge, hbl])), rfl⟩, sub_picks [] rfl⟩

end Go.Proofs.Ytacmbiohjiogiaa.K
