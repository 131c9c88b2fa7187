/- Walks over the package prefab: templates checked, and built. No condition beyond what each statement names. -/
import Derived.Test.YtacmbiohjiogiaaProg
import Derived.Test.YtacmbiohjiogiaaK19
import Derived.Test.YtacmbiohjiogiaaM1
import Derived.Test.YtacmbiohjiogiaaM2
import Derived.Test.YtacmbiohjiogiaaW1
import Derived.Test.YtacmbiohjiogiaaW2
import Derived.Test.YtacmbiohjiogiaaW3
import Derived.Test.YtacmbiohjiogiaaW4
import Derived.Test.YtacmbiohjiogiaaW6
import Derived.Test.YtacmbiohjiogiaaW7
import Derived.Test.YtacmbiohjiogiaaX1
import Derived.Test.YtacmbiohjiogiaaP1
import Derived.Test.YtacmbiohjiogiaaP2
import Derived.Test.YtacmbiohjiogiaaP3
import Derived.Test.YtacmbiohjiogiaaP4
set_option linter.unusedVariables false
set_option linter.unusedSimpArgs false
set_option maxRecDepth 100000
namespace Go.Proofs.Ytacmbiohjiogiaa.K
open Go.RowKit

/-- Valid templates, a few. -/
def okTs (ks : List KR) (l : List PfR) : Prop := l.length ≤ 4 ∧ (∀ i, i < l.length → goodT ks (l.map PfR.d) i) ∧ (∀ i, i < l.length → heldP ks (l.getD i default).cs)

theorem PCheck_c {V : Mem} (A : Option Addr) (nK cK : Nat) (ks : List KR) (hks : KsOK V A nK cK ks) (hck : ckErr ks = 0) (lA : Option Addr) (ln lc : Nat) (l : List PfR) (hl : LsOK V lA ln lc l) (hok : okTs ks l) : CallS Try.prog 88 [.slice A nK cK, .slice lA ln lc].toArray V [] (fun r L' => r = .int .i64 0 ∧ L' = []) := by
  have hll := hl.1
  have hl4 := hok.1
  refine callS Try.func88 rfl rfl (fun w0 => ?_)
  refine s_seq ?_
  refine s_region ?_
  refine o_val rfl rfl rfl (y_assign (v := (.int _ _)) rfl) ?_
  refine o_nil ?_
  refine s_seq ?_
  refine s_seq ?_
  refine s_region ?_
  refine o_val rfl rfl rfl (y_move (v := (.slice _ _ _)) rfl) ?_
  refine o_fn 0 (d := 14) rfl Try.call97 (CheckK_c A nK cK ks hks.2.2.2.1.here.down hks.1 hks.2.1 (by have := hks.2.2.1; omega) (fun x hx => (hks.2.2.2.2 x hx).sub MSub.ext)) rfl ?_
  rintro _ _ ⟨rfl, rfl⟩
  refine o_val rfl rfl rfl (y_assign (v := (.int _ _)) rfl) ?_
  refine o_nil ?_
  refine s_seq ?_
  refine s_region ?_
  refine o_val rfl rfl rfl (y_move (v := (.int _ _)) rfl) ?_
  refine o_val rfl rfl rfl (y_neq rfl rfl) ?_
  refine o_nil ?_
  refine s_if rfl (fun h1 => ?_) (fun h2 => ?_)
  · exact absurd hck h1
  · refine s_skip ?_
    refine s_seq ?_
    refine s_seq ?_
    refine s_region ?_
    refine o_val rfl rfl rfl (y_move (v := (.slice _ _ _)) rfl) ?_
    refine o_val rfl rfl rfl (y_len Try.runUnderlying25 rfl) ?_
    refine o_val rfl rfl rfl (y_gtr rfl rfl) ?_
    refine o_nil ?_
    refine s_if rfl (fun h3 => ?_) (fun h4 => ?_)
    · exfalso; omega
    · refine s_skip ?_
      refine s_seq ?_
      refine s_seq ?_
      refine s_region ?_
      refine o_val rfl rfl rfl (y_move (v := (.slice _ _ _)) rfl) ?_
      refine o_val rfl rfl rfl (y_len Try.runUnderlying25 rfl) ?_
      refine o_val rfl rfl rfl (y_move (v := (.int _ _)) rfl) ?_
      refine o_nil ?_
      refine s_forget [(0, (.slice _ _ _)), (1, (.slice _ _ _)), (4, (.int _ _)), (21, (.slice _ _ _)), (22, (.int _ _)), (23, (.int _ _))] ⟨rfl, rfl, rfl, rfl, rfl, rfl, trivial⟩ (fun _f => ?_)
      refine s_block ?_
      refine s_loopK (γ := Nat) [(0, (.slice _ _ _)), (1, (.slice _ _ _)), (21, (.slice _ _ _)), (22, (.int _ _))] [] (fun g => [(23, .int .i64 g)]) (fun g => []) (fun g => g ≤ ln) (fun g => ln - g) (0) ⟨rfl, rfl, rfl, rfl, rfl, trivial⟩ (sub_picks [] rfl) ?_ ?_
      · exact Nat.zero_le _
      intro g _f hI
      have hg := hI
      refine s_seq ?_
      refine s_region ?_
      refine o_val rfl rfl rfl (y_lss rfl rfl) ?_
      refine o_nil ?_
      refine s_seq ?_
      refine s_if rfl (fun h5 => ?_) (fun h6 => ?_)
      · refine s_skip ?_
        refine s_seq ?_
        refine s_block ?_
        refine s_seq ?_
        refine s_region ?_
        refine o_val rfl rfl rfl (y_move (v := (.int _ _)) rfl) ?_
        refine o_val rfl rfl rfl (y_indexAddr Try.runUnderlying25 Try.sizeOf38 (some_at (sz := 1) encPf_len (i := 0) hl.2.2.2.1 (by omega)) rfl rfl (by omega)) ?_
        refine o_val rfl rfl rfl (y_loads (cs := [_, _]) Try.isAgg38 Try.sizeOf38 rfl (by unfold idx; rw [Option.isSome_map]; exact some_at (sz := 1) encPf_len (i := 0) hl.2.2.2.1 (by omega)) rfl (cels_at (sz := 2) encPf_len hl.2.2.2.1.here (by omega))) ?_
        refine o_alloc rfl Try.zeroValue38 rfl (fun b7 => ?_)
        refine o_val rfl rfl rfl (y_assign (v := (.int _ _)) rfl) ?_
        refine o_stores (vs := [(.slice _ _ _), (.slice _ _ _)]) 0 rfl Try.sizeOf38 rfl rfl rfl (by simp [Value.oneCell']) (by simp) ?_
        refine o_nil ?_
        refine s_seq ?_
        refine s_seq ?_
        refine s_region ?_
        have hpf := hl.2.2.2.2 _ (getD_mem' (show g < l.length by omega) : (l.getD ((g : Nat) : Int).toNat default) ∈ l)
        have hpl := hpf.2.1
        have hpb := hpf.2.2.2.1
        have hp2 := (hok.2.1 g (by omega)).1
        rw [tget] at hp2
        have hp2 : (l.getD ((g : Nat) : Int).toNat default).ps.length ≤ 2 := by simpa [PfR.d] using hp2
        refine o_val rfl rfl rfl (y_move (v := (.slice _ _ _)) rfl) ?_
        refine o_val rfl rfl rfl (y_field0 Try.runUnderlying38 rfl Try.sizeOf33 rfl rfl) ?_
        refine o_val rfl rfl rfl (y_load Try.isAgg33 rfl (cel_own 0 rfl rfl)) ?_
        refine o_fn 0 (d := 31) rfl Try.call128 (PComps_c A nK cK ks (hks.sub MSub.ext) (l.getD ((g : Nat) : Int).toNat default).cA (l.getD ((g : Nat) : Int).toNat default).cn (l.getD ((g : Nat) : Int).toNat default).cc (l.getD ((g : Nat) : Int).toNat default).cs (hpf.1.sub MSub.ext) (hok.2.2 g (by omega))) rfl ?_
        rintro _ _ ⟨rfl, rfl⟩
        refine o_val rfl rfl rfl (y_assign (v := (.int _ _)) rfl) ?_
        refine o_nil ?_
        refine s_forget [(0, (.slice _ _ _)), (1, (.slice _ _ _)), (6, (.int _ _)), (7, (.pointer _)), (8, (.int _ _)), (21, (.slice _ _ _)), (22, (.int _ _)), (23, (.int _ _))] ⟨rfl, rfl, rfl, rfl, rfl, rfl, rfl, rfl, trivial⟩ (fun _f => ?_)
        refine s_seq ?_
        refine s_region ?_
        refine o_val rfl rfl rfl (y_move (v := (.int _ _)) rfl) ?_
        refine o_val rfl rfl rfl (y_neq rfl rfl) ?_
        refine o_nil ?_
        refine s_if rfl (fun h8 => ?_) (fun h9 => ?_)
        · exact absurd rfl h8
        · refine s_skip ?_
          refine s_seq ?_
          refine s_seq ?_
          refine s_region ?_
          refine o_val rfl rfl rfl (y_field0 Try.runUnderlying38 rfl Try.sizeOf36 rfl rfl) ?_
          refine o_val rfl rfl rfl (y_load Try.isAgg36 rfl (cel_own 0 rfl rfl)) ?_
          refine o_val rfl rfl rfl (y_len Try.runUnderlying36 rfl) ?_
          refine o_val rfl rfl rfl (y_gtr rfl rfl) ?_
          refine o_nil ?_
          refine s_if rfl (fun h10 => ?_) (fun h11 => ?_)
          · exfalso; omega
          · refine s_skip ?_
            refine s_seq ?_
            refine s_region ?_
            refine o_val rfl rfl rfl (y_field0 Try.runUnderlying38 rfl Try.sizeOf36 rfl rfl) ?_
            refine o_val rfl rfl rfl (y_load Try.isAgg36 rfl (cel_own 0 rfl rfl)) ?_
            refine o_val rfl rfl rfl (y_len Try.runUnderlying36 rfl) ?_
            refine o_val rfl rfl rfl (y_move (v := (.int _ _)) rfl) ?_
            refine o_nil ?_
            refine s_block ?_
            refine s_loopK (γ := Nat) [(0, (.slice _ _ _)), (1, (.slice _ _ _)), (6, (.int _ _)), (21, (.slice _ _ _)), (22, (.int _ _)), (23, (.int _ _)), (40, (.slice _ _ _)), (41, (.int _ _))] [] (fun u => [(42, .int .i64 u)]) (fun u => []) (fun u => u ≤ (l.getD ((g : Nat) : Int).toNat default).pn) (fun u => (l.getD ((g : Nat) : Int).toNat default).pn - u) (0) ⟨rfl, rfl, rfl, rfl, rfl, rfl, rfl, rfl, rfl, trivial⟩ (sub_picks [] rfl) ?_ ?_
            · exact Nat.zero_le _
            intro u _f hJ
            have hu := hJ
            refine s_seq ?_
            refine s_region ?_
            refine o_val rfl rfl rfl (y_lss rfl rfl) ?_
            refine o_nil ?_
            refine s_seq ?_
            refine s_if rfl (fun h12 => ?_) (fun h13 => ?_)
            · refine s_skip ?_
              refine s_seq ?_
              refine s_block ?_
              refine s_seq ?_
              refine s_region ?_
              refine o_val rfl rfl rfl (y_indexAddr Try.runUnderlying36 Try.sizeOf41 (some_at (sz := 1) encPa_len (i := 0) hpf.2.2.2.2.1 (by omega)) rfl rfl (by omega)) ?_
              refine o_val rfl rfl rfl (y_loads (cs := [_, _]) Try.isAgg41 Try.sizeOf41 rfl (by unfold idx; rw [Option.isSome_map]; exact some_at (sz := 1) encPa_len (i := 0) hpf.2.2.2.2.1 (by omega)) rfl (cels_at (sz := 2) encPa_len hpf.2.2.2.2.1.here (by omega))) ?_
              refine o_alloc rfl Try.zeroValue41 rfl (fun b14 => ?_)
              refine o_stores (vs := [(.int _ _), (.slice _ _ _)]) 0 rfl Try.sizeOf41 rfl rfl rfl (by simp [Value.oneCell']) (by simp) ?_
              refine o_nil ?_
              refine s_norm [[(_, .cells [(.int _ _), (.slice _ _ _)].toArray 41 (0, 0))]] rfl ?_
              refine s_seq ?_
              refine s_seq ?_
              refine s_region ?_
              have hqk := good_at (ks := ks) (hok.2.1 g (by omega)) (show u < (l.getD ((g : Nat) : Int).toNat default).ps.length by omega)
              obtain ⟨hq0, hq1, hq2, bu, hub⟩ := hqk
              have hqo := hpf.2.2.2.2.2 _ (getD_mem' (show u < (l.getD ((g : Nat) : Int).toNat default).ps.length by omega) : ((l.getD ((g : Nat) : Int).toNat default).ps.getD ((u : Nat) : Int).toNat default) ∈ (l.getD ((g : Nat) : Int).toNat default).ps)
              have hq0' : 0 ≤ ((l.getD ((g : Nat) : Int).toNat default).ps.getD ((u : Nat) : Int).toNat default).of := hq0
              have hq1' : ((l.getD ((g : Nat) : Int).toNat default).ps.getD ((u : Nat) : Int).toNat default).of < g := hq1
              have hq2' : ((l.getD ((g : Nat) : Int).toNat default).ps.getD ((u : Nat) : Int).toNat default).os.length ≤ 40 := hq2
              have hres : resV ks (l.map PfR.d) ((l.getD ((g : Nat) : Int).toNat default).ps.getD ((u : Nat) : Int).toNat default).of.toNat (((l.getD ((g : Nat) : Int).toNat default).ps.getD ((u : Nat) : Int).toNat default).os.map OvR.d) = useV ks (l.map PfR.d) ((l.getD ((g : Nat) : Int).toNat default).ps.getD ((u : Nat) : Int).toNat default).d := if_neg (by rw [List.length_map]; omega)
              refine o_val rfl rfl rfl (y_field0 Try.runUnderlying41 rfl Try.sizeOf3 rfl rfl) ?_
              refine o_val rfl rfl rfl (y_load Try.isAgg3 rfl (cel_own 0 rfl rfl)) ?_
              refine o_split rfl rfl rfl (y_lss rfl rfl) (fun p15 => ?_) (fun p16 => ?_)
              · exfalso; omega
              · refine o_val rfl rfl rfl (y_move (v := (.bool _)) rfl) ?_
                refine o_guard_yes rfl rfl ?_
                refine o_val rfl rfl rfl (y_field0 Try.runUnderlying41 rfl Try.sizeOf3 rfl rfl) ?_
                refine o_guard_yes rfl rfl ?_
                refine o_val rfl rfl rfl (y_load Try.isAgg3 rfl (cel_own 0 rfl rfl)) ?_
                refine o_guard_yes rfl rfl ?_
                refine o_val rfl rfl rfl (y_move (v := (.slice _ _ _)) rfl) ?_
                refine o_guard_yes rfl rfl ?_
                refine o_val rfl rfl rfl (y_len Try.runUnderlying25 rfl) ?_
                refine o_guard_yes rfl rfl ?_
                refine o_val rfl rfl rfl (y_geq rfl rfl) ?_
                refine o_val rfl rfl rfl (y_pick_f (v := (.bool _)) rfl rfl) ?_
                refine o_nil ?_
                refine s_forget [(0, (.slice _ _ _)), (1, (.slice _ _ _)), (6, (.int _ _)), (10, (.pointer _)), (21, (.slice _ _ _)), (22, (.int _ _)), (23, (.int _ _)), (40, (.slice _ _ _)), (41, (.int _ _)), (42, (.int _ _)), (55, (.bool _))] ⟨rfl, rfl, rfl, rfl, rfl, rfl, rfl, rfl, rfl, rfl, rfl, trivial⟩ (fun _f => ?_)
                refine s_if rfl (fun h17 => ?_) (fun h18 => ?_)
                · exfalso; omega
                · refine s_skip ?_
                  refine s_seq ?_
                  refine s_seq ?_
                  refine s_region ?_
                  refine o_val rfl rfl rfl (y_field0 Try.runUnderlying41 rfl Try.sizeOf3 rfl rfl) ?_
                  refine o_val rfl rfl rfl (y_load Try.isAgg3 rfl (cel_own 0 rfl rfl)) ?_
                  refine o_val rfl rfl rfl (y_move (v := (.int _ _)) rfl) ?_
                  refine o_val rfl rfl rfl (y_geq rfl rfl) ?_
                  refine o_nil ?_
                  refine s_if rfl (fun h19 => ?_) (fun h20 => ?_)
                  · exfalso; omega
                  · refine s_skip ?_
                    refine s_seq ?_
                    refine s_region ?_
                    refine o_val rfl rfl rfl (y_move (v := (.slice _ _ _)) rfl) ?_
                    refine o_val rfl rfl rfl (y_move (v := (.slice _ _ _)) rfl) ?_
                    refine o_val rfl rfl rfl (y_field0 Try.runUnderlying41 rfl Try.sizeOf3 rfl rfl) ?_
                    refine o_val rfl rfl rfl (y_load Try.isAgg3 rfl (cel_own 0 rfl rfl)) ?_
                    refine o_val rfl rfl rfl (y_field0 Try.runUnderlying41 rfl Try.sizeOf39 rfl rfl) ?_
                    refine o_val rfl rfl rfl (y_load Try.isAgg39 rfl (cel_own 0 rfl rfl)) ?_
                    refine o_fn 0 (d := 67) rfl Try.call89 (Build0_c ((l.getD ((g : Nat) : Int).toNat default).ps.getD ((u : Nat) : Int).toNat default).of.toNat A nK cK ks (hks.sub MSub.ext) hck lA ln lc l (hl.sub MSub.ext) (fun i hi => hok.2.1 i (by omega)) (fun i hi => hok.2.2 i (by omega)) (by omega) (by omega) ((l.getD ((g : Nat) : Int).toNat default).ps.getD ((u : Nat) : Int).toNat default).of (by omega) ((l.getD ((g : Nat) : Int).toNat default).ps.getD ((u : Nat) : Int).toNat default).A ((l.getD ((g : Nat) : Int).toNat default).ps.getD ((u : Nat) : Int).toNat default).n ((l.getD ((g : Nat) : Int).toNat default).ps.getD ((u : Nat) : Int).toNat default).c ((l.getD ((g : Nat) : Int).toNat default).ps.getD ((u : Nat) : Int).toNat default).os (OsOK.sub hqo MSub.ext)) rfl ?_
                    rintro _ _ (⟨e, hx, he, rfl, rfl⟩ | ⟨bs', gs', B', bn', C', E', P', hx, rfl, hbn, ho', hb', rfl⟩)
                    · exact absurd (hx.symm.trans (hres.trans hub)) (by simp)
                    · refine o_val rfl rfl rfl (y_move (v := (.tuple #[(.slice _ _ _), (.int _ _)])) rfl) ?_
                      refine o_val rfl rfl rfl (y_extract (v := (.slice _ _ _)) rfl rfl) ?_
                      refine o_val rfl rfl rfl (y_extract (v := (.int _ _)) rfl rfl) ?_
                      refine o_val rfl rfl rfl (y_assign (v := (.slice _ _ _)) rfl) ?_
                      refine o_val rfl rfl rfl (y_assign (v := (.int _ _)) rfl) ?_
                      refine o_nil ?_
                      refine s_forget [(0, (.slice _ _ _)), (1, (.slice _ _ _)), (6, (.int _ _)), (12, (.int _ _)), (21, (.slice _ _ _)), (22, (.int _ _)), (23, (.int _ _)), (40, (.slice _ _ _)), (41, (.int _ _)), (42, (.int _ _))] ⟨rfl, rfl, rfl, rfl, rfl, rfl, rfl, rfl, rfl, rfl, trivial⟩ (fun _f => ?_)
                      refine s_seq ?_
                      refine s_region ?_
                      refine o_val rfl rfl rfl (y_move (v := (.int _ _)) rfl) ?_
                      refine o_val rfl rfl rfl (y_neq rfl rfl) ?_
                      refine o_nil ?_
                      refine s_if rfl (fun h21 => ?_) (fun h22 => ?_)
                      · exact absurd rfl h21
                      · refine s_skip ?_
                        refine s_region ?_
                        refine o_val rfl rfl rfl (y_add rfl rfl (by simp only [inK]; omega)) ?_
                        refine o_val rfl rfl rfl (y_move (v := (.int _ _)) rfl) ?_
                        refine o_nil ?_
                        exact ⟨u + 1, (by first | omega | (dsimp only; omega)), by omega, ⟨(congrArg (Value.int .i64) (by omega)), rfl, rfl, rfl, rfl, rfl, rfl, rfl, rfl, trivial⟩, (sub_picks [] rfl)⟩
            · refine s_exit ?_
              refine s_region ?_
              refine o_val rfl rfl rfl (y_add rfl rfl (by simp only [inK]; omega)) ?_
              refine o_val rfl rfl rfl (y_move (v := (.int _ _)) rfl) ?_
              refine o_nil ?_
              exact ⟨g + 1, (by first | omega | (dsimp only; omega)), by omega, ⟨(congrArg (Value.int .i64) (by omega)), rfl, rfl, rfl, rfl, trivial⟩, (sub_picks [] rfl)⟩
      · refine s_exit ?_
        refine s_seq ?_
        refine s_region ?_
        refine o_val rfl rfl rfl (y_assign (v := (.int _ _)) rfl) ?_
        refine o_nil ?_
        refine s_ret ?_
        exact ⟨_, [], res1 rfl rfl, ⟨rfl, rfl⟩, sub_picks [] rfl⟩

theorem Build_c {V : Mem} (A : Option Addr) (nK cK : Nat) (ks : List KR) (hks : KsOK V A nK cK ks) (hck : ckErr ks = 0) (lA : Option Addr) (ln lc : Nat) (l : List PfR) (hl : LsOK V lA ln lc l) (hok : okTs ks l) (n : Nat) (hn : n < l.length) (z : Int) (hz : z = (n : Int)) (oA : Option Addr) (on oc : Nat) (os : List OvR) (hos : OsOK V oA on oc os) : CallS Try.prog 19 [.slice A nK cK, .slice lA ln lc, .int .i64 z, .slice oA on oc].toArray V [] (fun r L' => (∃ e : Int, resV ks (l.map PfR.d) n (os.map OvR.d) = .error e ∧ e ≠ 0 ∧ r = .tuple #[.slice none 0 0, .int .i64 e] ∧ L' = []) ∨ (∃ (bs : List BR) (gs : List Grp) (bA : Option Addr) (bn bC : Nat) (E P : Grp), resV ks (l.map PfR.d) n (os.map OvR.d) = .ok (bs.map BR.d) ∧ r = .tuple #[.slice bA bn bC, .int .i64 0] ∧ bs.length = bn ∧ OS bA bn bC 35 2 ((bs).flatMap encB) E ∧ BsOK ks (inG P) bs gs ∧ L' = [E, gs.flatten, P])) := by
  subst hz
  have hll := hl.1
  have hl4 := hok.1
  refine callS Try.func19 rfl rfl (fun w0 => ?_)
  refine s_seq ?_
  refine s_region ?_
  refine o_val rfl rfl rfl (y_assign (v := (.slice _ _ _)) rfl) ?_
  refine o_val rfl rfl rfl (y_assign (v := (.int _ _)) rfl) ?_
  refine o_nil ?_
  refine s_seq ?_
  refine s_seq ?_
  refine s_region ?_
  refine o_val rfl rfl rfl (y_move (v := (.slice _ _ _)) rfl) ?_
  refine o_val rfl rfl rfl (y_move (v := (.slice _ _ _)) rfl) ?_
  refine o_fn 0 (d := 13) rfl Try.call88 (PCheck_c A nK cK ks (hks.sub MSub.ext) hck lA ln lc l (hl.sub MSub.ext) hok) rfl ?_
  rintro _ _ ⟨rfl, rfl⟩
  refine o_val rfl rfl rfl (y_assign (v := (.int _ _)) rfl) ?_
  refine o_nil ?_
  refine s_seq ?_
  refine s_region ?_
  refine o_val rfl rfl rfl (y_move (v := (.int _ _)) rfl) ?_
  refine o_val rfl rfl rfl (y_neq rfl rfl) ?_
  refine o_nil ?_
  refine s_if rfl (fun h1 => ?_) (fun h2 => ?_)
  · exact absurd rfl h1
  · refine s_skip ?_
    refine s_seq ?_
    refine s_seq ?_
    refine s_region ?_
    refine o_val rfl rfl rfl (y_move (v := (.int _ _)) rfl) ?_
    refine o_split rfl rfl rfl (y_lss rfl rfl) (fun p3 => ?_) (fun p4 => ?_)
    · exfalso; omega
    · refine o_val rfl rfl rfl (y_move (v := (.bool _)) rfl) ?_
      refine o_guard_yes rfl rfl ?_
      refine o_val rfl rfl rfl (y_move (v := (.int _ _)) rfl) ?_
      refine o_guard_yes rfl rfl ?_
      refine o_val rfl rfl rfl (y_move (v := (.slice _ _ _)) rfl) ?_
      refine o_guard_yes rfl rfl ?_
      refine o_val rfl rfl rfl (y_len Try.runUnderlying25 rfl) ?_
      refine o_guard_yes rfl rfl ?_
      refine o_val rfl rfl rfl (y_geq rfl rfl) ?_
      refine o_val rfl rfl rfl (y_pick_f (v := (.bool _)) rfl rfl) ?_
      refine o_nil ?_
      refine s_forget [(0, (.slice _ _ _)), (1, (.slice _ _ _)), (2, (.int _ _)), (3, (.slice _ _ _)), (8, (.slice _ _ _)), (9, (.int _ _)), (24, (.bool _))] ⟨rfl, rfl, rfl, rfl, rfl, rfl, rfl, trivial⟩ (fun _f => ?_)
      refine s_if rfl (fun h5 => ?_) (fun h6 => ?_)
      · exfalso; omega
      · refine s_skip ?_
        refine s_seq ?_
        refine s_region ?_
        refine o_val rfl rfl rfl (y_move (v := (.slice _ _ _)) rfl) ?_
        refine o_val rfl rfl rfl (y_move (v := (.slice _ _ _)) rfl) ?_
        refine o_val rfl rfl rfl (y_move (v := (.int _ _)) rfl) ?_
        refine o_val rfl rfl rfl (y_move (v := (.slice _ _ _)) rfl) ?_
        refine o_fn 0 (d := 29) rfl Try.call89 (Build0_c n A nK cK ks (hks.sub MSub.ext) hck lA ln lc l (hl.sub MSub.ext) (fun i hi => hok.2.1 i (by omega)) (fun i hi => hok.2.2 i (by omega)) (by omega) (by omega) (n : Int) rfl oA on oc os (hos.sub MSub.ext)) rfl ?_
        rintro _ _ (⟨e, hx, he, rfl, rfl⟩ | ⟨bs', gs', B', bn', C', E', P', hx, rfl, hbn, ho', hb', rfl⟩)
        · refine o_val rfl rfl rfl (y_extract (v := (.slice _ _ _)) rfl rfl) ?_
          refine o_val rfl rfl rfl (y_extract (v := (.int _ _)) rfl rfl) ?_
          refine o_val rfl rfl rfl (y_assign (v := (.slice _ _ _)) rfl) ?_
          refine o_val rfl rfl rfl (y_assign (v := (.int _ _)) rfl) ?_
          refine o_nil ?_
          refine s_ret ?_
          exact ⟨_, [], res2 rfl rfl rfl, .inl ⟨e, hx, he, rfl, rfl⟩, sub_picks [] rfl⟩
        · refine o_val rfl rfl rfl (y_extract (v := (.slice _ _ _)) rfl rfl) ?_
          refine o_val rfl rfl rfl (y_extract (v := (.int _ _)) rfl rfl) ?_
          refine o_val rfl rfl rfl (y_assign (v := (.slice _ _ _)) rfl) ?_
          refine o_val rfl rfl rfl (y_assign (v := (.int _ _)) rfl) ?_
          refine o_nil ?_
          refine s_ret ?_
          exact ⟨_, [_, _, _], res2 rfl rfl rfl, .inr ⟨bs', gs', _, _, _, _, _, hx, rfl, hbn, ho', hb', rfl⟩, sub_picks [0, 0, 0] rfl⟩

end Go.Proofs.Ytacmbiohjiogiaa.K
