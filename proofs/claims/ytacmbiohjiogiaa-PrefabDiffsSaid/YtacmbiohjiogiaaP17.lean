/- Walks: the law of the differences of templates. No condition beyond what each statement names. -/
import Derived.Test.YtacmbiohjiogiaaProg
import Derived.Test.YtacmbiohjiogiaaK11
import Derived.Test.YtacmbiohjiogiaaK14
import Derived.Test.YtacmbiohjiogiaaK19
import Derived.Test.YtacmbiohjiogiaaM1
import Derived.Test.YtacmbiohjiogiaaM2
import Derived.Test.YtacmbiohjiogiaaW1
import Derived.Test.YtacmbiohjiogiaaW2
import Derived.Test.YtacmbiohjiogiaaW3
import Derived.Test.YtacmbiohjiogiaaW4
import Derived.Test.YtacmbiohjiogiaaW5
import Derived.Test.YtacmbiohjiogiaaW6
import Derived.Test.YtacmbiohjiogiaaW7
import Derived.Test.YtacmbiohjiogiaaX1
import Derived.Test.YtacmbiohjiogiaaP1
import Derived.Test.YtacmbiohjiogiaaP2
import Derived.Test.YtacmbiohjiogiaaP3
import Derived.Test.YtacmbiohjiogiaaP4
import Derived.Test.YtacmbiohjiogiaaP5
import Derived.Test.YtacmbiohjiogiaaP6
import Derived.Test.YtacmbiohjiogiaaP7
import Derived.Test.YtacmbiohjiogiaaP8
import Derived.Test.YtacmbiohjiogiaaP9
import Derived.Test.YtacmbiohjiogiaaP10
import Derived.Test.YtacmbiohjiogiaaP11
import Derived.Test.YtacmbiohjiogiaaP12
import Derived.Test.YtacmbiohjiogiaaP14
import Derived.Test.YtacmbiohjiogiaaP15
import Derived.Test.YtacmbiohjiogiaaP16
set_option linter.unusedVariables false
set_option linter.unusedSimpArgs false
set_option maxRecDepth 100000
set_option maxHeartbeats 2000000
namespace Go.Proofs.Ytacmbiohjiogiaa.K
open Go.RowKit

theorem want_def (ks : List KR) (V : Mem) : wantOK ks V default := ⟨⟨rfl, Nat.le_refl _, Nat.zero_le _, Cels.nil⟩, ⟨rfl, Nat.le_refl _, Nat.zero_le _, Cels.nil, fun x hx => absurd hx List.not_mem_nil⟩, fun j hj => absurd hj (Nat.not_lt_zero j)⟩
theorem diffE_long {bs ws : List BV} (h : bs.length ≠ ws.length) {e : Int} (he : diffE bs ws = .error e) : e = 8 := by
  unfold diffE at he
  rw [if_pos h] at he
  cases he; rfl
theorem and7 (t : Int) : bAnd .i64 t 7 = bAnd .i64 t 7 := rfl

/-- Groups that are all still there. -/
theorem ext_picks {V : Mem} {L L' : List Grp} (js : List Nat) (h : js.map (nth L) = L'.map some) : MSub (ext V L') (ext V L) := fun b o hb => by
  rcases hb with hb | hb
  · exact .inl hb
  · obtain ⟨G, hG, hbo⟩ := List.mem_flatten.1 hb
    have h1 : some G ∈ js.map (nth L) := h ▸ List.mem_map.2 ⟨G, hG, rfl⟩
    obtain ⟨j, _, hj⟩ := List.mem_map.1 h1
    exact inG_ext hj b o hbo

theorem PrefabDiffs_k0 (w : World) : (Instr.build 35 ([] : List (Nat × Value)).toArray).run Try.prog w = .ok (.agg #[.slice none 0 0, .slice none 0 0]) w := by kernel_rfl
theorem PrefabDiffs_k1 (v0x0A : Option Addr) (v0x0n : Nat) (v0x0c : Nat) (v0x1A : Option Addr) (v0x1n : Nat) (v0x1c : Nat) (w : World) : (Instr.buildSlice 28 1 ([(0, (.agg #[(.slice v0x0A v0x0n v0x0c), (.slice v0x1A v0x1n v0x1c)]))] : List (Nat × Value)).toArray).run Try.prog w = .ok (.slice (some ⟨w.heap.size, 0, none⟩) 1 1) { w with heap := w.heap.push (.cells ([.slice v0x0A v0x0n v0x0c, .slice v0x1A v0x1n v0x1c] : List Value).toArray 35 (0, 0)) } := by kernel_rfl
theorem PrefabDiffs_c {V : Mem} (A : Option Addr) (n c : Nat) (xs : List Int) (h : Cels V [] A (xs.map (.int .i64))) (hn : xs.length = n) (hc : n ≤ c) (m : Int) (oA : Option Addr) (on oc : Nat) (os : List OvR) (hos : OsOK V oA on oc os) (t : Int) : CallS Try.prog 11 [.slice A n c, .int .i64 m, .slice oA on oc, .int .i64 t].toArray V [] (fun r L' => r = .bool true ∧ L' = []) := by
  have hosl := hos.1
  refine callS Try.func11 rfl rfl (fun w0 => ?_)
  refine s_seq ?_
  refine s_region ?_
  refine o_val rfl rfl rfl (y_assign (v := (.bool _)) rfl) ?_
  refine o_nil ?_
  refine s_seq ?_
  refine s_region ?_
  refine o_val rfl rfl rfl (y_move (v := (.slice _ _ _)) rfl) ?_
  refine o_fn 0 (d := 22) rfl Try.call16 (GenKs_c A n c xs h.here.down hn hc) rfl ?_
  rintro _ _ ⟨kA, kC, kE, kP, ks, rfl, hko, hkx, hkg, hk1, rfl⟩
  have hck := kindsG_ok hkg
  have hk4 := hkg.1
  refine o_val rfl rfl rfl (y_assign (v := (.slice _ _ _)) rfl) ?_
  refine o_nil ?_
  refine s_seq ?_
  refine s_region ?_
  refine o_val rfl rfl rfl (y_move (v := (.slice _ _ _)) rfl) ?_
  refine o_val rfl rfl rfl (y_move (v := (.slice _ _ _)) rfl) ?_
  refine o_fn 0 (d := 25) rfl Try.call17 (GenP_c kA ks.length kC ks ⟨rfl, hko.2.1, by omega, (hko.cels (j := 0) rfl).down, fun x hx => (hkx x hx).sub (inG_ext (j := 1) rfl)⟩ hkg A n c xs h.here.down hn hc) rfl ?_
  rintro _ _ ⟨lA, lC, l, lE, lP, rfl, hlo, hlp, hlk, hl1, rfl⟩
  have hl4 := hlk.1
  refine o_val rfl rfl rfl (y_assign (v := (.slice _ _ _)) rfl) ?_
  refine o_nil ?_
  refine s_seq ?_
  refine s_region ?_
  refine o_val rfl rfl rfl (y_move (v := (.int _ _)) rfl) ?_
  refine o_val rfl rfl rfl (y_move (v := (.slice _ _ _)) rfl) ?_
  refine o_val rfl rfl rfl (y_len Try.runUnderlying25 rfl) ?_
  refine o_fn 0 (d := 29) rfl Try.call18 (Below_c _ _ (by omega)) rfl ?_
  rintro _ _ ⟨z, rfl, hz0, hz1, rfl⟩
  obtain ⟨zn, rfl⟩ : ∃ zn : Nat, z = zn := ⟨z.toNat, by omega⟩
  have hzn : zn < l.length := by omega
  refine o_val rfl rfl rfl (y_assign (v := (.int _ _)) rfl) ?_
  refine o_nil ?_
  refine s_forget [(1, (.int _ _)), (2, (.slice _ _ _)), (3, (.int _ _)), (8, (.bool _)), (9, (.slice _ _ _)), (10, (.slice _ _ _))] ⟨rfl, rfl, rfl, rfl, rfl, rfl, trivial⟩ (fun _f => ?_)
  refine s_seq ?_
  refine s_region ?_
  refine o_val rfl rfl rfl (y_move (v := (.slice _ _ _)) rfl) ?_
  refine o_val rfl rfl rfl (y_move (v := (.slice _ _ _)) rfl) ?_
  refine o_val rfl rfl rfl (y_move (v := (.int _ _)) rfl) ?_
  refine o_fn 0 (d := 34) rfl Try.call63 (RBuild_c zn kA ks.length kC ks ⟨rfl, hko.2.1, by omega, (hko.cels (j := 2) rfl).down, fun x hx => (hkx x hx).sub (inG_ext (j := 3) rfl)⟩ hck lA l.length lC l ⟨rfl, hlo.2.1, by omega, (hlo.cels (j := 0) rfl).down, fun x hx => (hlp x hx).sub (inG_ext (j := 1) rfl)⟩ (fun i hi => hlk.2.1 i (by omega)) (fun i hi => hlk.2.2 i (by omega)) hzn (by omega) (zn : Int) rfl none 0 0 [] ⟨rfl, Nat.le_refl _, Nat.zero_le _, Cels.nil, fun y hy => absurd hy List.not_mem_nil⟩) rfl ?_
  rintro _ _ (⟨eh, hxh, heh, rfl, rfl⟩ | ⟨bs'h, gs'h, B'h, bn'h, C'h, E'h, P'h, hxh, rfl, hbnh, ho'h, hb'h, rfl⟩)
  · exact absurd ((resV_nil ks (l.map PfR.d) zn).symm.trans hxh) (by simp)
  · have hbdh := Except.ok.inj (hxh.symm.trans (resV_nil ks (l.map PfR.d) zn))
    have hblh : (rawV ks (l.map PfR.d) zn).length = bn'h := by rw [← hbdh, List.length_map]; exact hbnh
    have hg := hlk.2.1
    have hb15 := rawV_15 (fun i hi => hg i (by omega)) (show zn ≤ 3 by omega)
    refine o_val rfl rfl rfl (y_move (v := (.tuple #[(.slice _ _ _), (.int _ _)])) rfl) ?_
    refine o_val rfl rfl rfl (y_extract (v := (.slice _ _ _)) rfl rfl) ?_
    refine o_val rfl rfl rfl (y_extract (v := (.int _ _)) rfl rfl) ?_
    refine o_val rfl rfl rfl (y_assign (v := (.slice _ _ _)) rfl) ?_
    refine o_val rfl rfl rfl (y_assign (v := (.int _ _)) rfl) ?_
    refine o_nil ?_
    refine s_seq ?_
    refine s_region ?_
    refine o_val rfl rfl rfl (y_move (v := (.slice _ _ _)) rfl) ?_
    refine o_val rfl rfl rfl (y_move (v := (.slice _ _ _)) rfl) ?_
    refine o_val rfl rfl rfl (y_move (v := (.int _ _)) rfl) ?_
    refine o_val rfl rfl rfl (y_move (v := (.slice _ _ _)) rfl) ?_
    refine o_fn 0 (d := 42) rfl Try.call63 (RBuild_c zn kA ks.length kC ks ⟨rfl, hko.2.1, by omega, (hko.cels (j := 5) rfl).down, fun x hx => (hkx x hx).sub (inG_ext (j := 6) rfl)⟩ hck lA l.length lC l ⟨rfl, hlo.2.1, by omega, (hlo.cels (j := 3) rfl).down, fun x hx => (hlp x hx).sub (inG_ext (j := 4) rfl)⟩ (fun i hi => hlk.2.1 i (by omega)) (fun i hi => hlk.2.2 i (by omega)) hzn (by omega) (zn : Int) rfl oA on oc os (hos.sub MSub.ext)) rfl ?_
    rintro _ _ (⟨ew, hxw, hew, rfl, rfl⟩ | ⟨bs'w, gs'w, B'w, bn'w, C'w, E'w, P'w, hxw, rfl, hbnw, ho'w, hb'w, rfl⟩)
    · refine o_val rfl rfl rfl (y_move (v := (.tuple #[(.slice _ _ _), (.int _ _)])) rfl) ?_
      refine o_val rfl rfl rfl (y_extract (v := (.slice _ _ _)) rfl rfl) ?_
      refine o_val rfl rfl rfl (y_extract (v := (.int _ _)) rfl rfl) ?_
      refine o_val rfl rfl rfl (y_assign (v := (.slice _ _ _)) rfl) ?_
      refine o_val rfl rfl rfl (y_assign (v := (.int _ _)) rfl) ?_
      refine o_nil ?_
      refine s_forget [(1, (.int _ _)), (2, (.slice _ _ _)), (3, (.int _ _)), (8, (.bool _)), (9, (.slice _ _ _)), (10, (.slice _ _ _)), (11, (.slice _ _ _)), (12, (.int _ _)), (13, (.slice _ _ _)), (14, (.int _ _))] ⟨rfl, rfl, rfl, rfl, rfl, rfl, rfl, rfl, rfl, rfl, trivial⟩ (fun _f => ?_)
      refine s_seq ?_
      refine s_region ?_
      refine o_val rfl rfl rfl (y_move (v := (.slice _ _ _)) rfl) ?_
      refine o_val rfl rfl rfl (y_move (v := (.slice _ _ _)) rfl) ?_
      refine o_val rfl rfl rfl (y_move (v := (.int _ _)) rfl) ?_
      refine o_val rfl rfl rfl (y_move (v := (.slice _ _ _)) rfl) ?_
      refine o_fn 0 (d := 50) rfl Try.call54 (CleanP_c kA ks.length kC ks ⟨rfl, hko.2.1, by omega, (hko.cels (j := 5) rfl).down, fun x hx => (hkx x hx).sub (inG_ext (j := 6) rfl)⟩ hck lA l.length lC l ⟨rfl, hlo.2.1, by omega, (hlo.cels (j := 3) rfl).down, fun x hx => (hlp x hx).sub (inG_ext (j := 4) rfl)⟩ hlk zn hzn (zn : Int) rfl oA on oc os (hos.sub MSub.ext)) rfl ?_
      rintro _ _ (⟨ec, hec, hec0, rfl, rfl⟩ | ⟨bc, dsc, dAc, dnc, dCc, dEc, dPc, hyc, hddc, rfl, hdnc, hdoc, hdxc, rfl⟩)
      · have hecw : ec = ew := by have := hec.symm.trans hxw; simpa using this
        refine o_val rfl rfl rfl (y_move (v := (.tuple #[(.slice _ _ _), (.int _ _)])) rfl) ?_
        refine o_val rfl rfl rfl (y_extract (v := (.slice _ _ _)) rfl rfl) ?_
        refine o_val rfl rfl rfl (y_extract (v := (.int _ _)) rfl rfl) ?_
        refine o_val rfl rfl rfl (y_assign (v := (.slice _ _ _)) rfl) ?_
        refine o_val rfl rfl rfl (y_assign (v := (.int _ _)) rfl) ?_
        refine o_nil ?_
        refine s_seq ?_
        refine s_seq ?_
        refine s_region ?_
        refine o_fn 0 (d := 53) rfl Try.call64 (builds4_c) rfl ?_
        rintro _ _ ⟨rfl, rfl⟩
        refine o_val rfl rfl rfl (y_notb rfl) ?_
        refine o_val rfl rfl rfl (y_move (v := (.bool _)) rfl) ?_
        refine o_guard_yes rfl rfl ?_
        refine o_val rfl rfl rfl (y_move (v := (.int _ _)) rfl) ?_
        refine o_guard_yes rfl rfl ?_
        refine o_val rfl rfl rfl (y_neq rfl rfl) ?_
        refine o_val rfl rfl rfl (y_pick_f (v := (.bool _)) rfl rfl) ?_
        refine o_nil ?_
        refine s_forget [(1, (.int _ _)), (3, (.int _ _)), (8, (.bool _)), (9, (.slice _ _ _)), (10, (.slice _ _ _)), (11, (.slice _ _ _)), (12, (.int _ _)), (13, (.slice _ _ _)), (14, (.int _ _)), (15, (.slice _ _ _)), (16, (.int _ _)), (58, (.bool _))] ⟨rfl, rfl, rfl, rfl, rfl, rfl, rfl, rfl, rfl, rfl, rfl, rfl, trivial⟩ (fun _f => ?_)
        refine s_if rfl (fun h1 => ?_) (fun h2 => ?_)
        · exact absurd rfl h1
        · refine s_skip ?_
          refine s_seq ?_
          refine s_seq ?_
          refine s_region ?_
          refine o_val rfl rfl rfl (y_move (v := (.int _ _)) rfl) ?_
          refine o_val rfl rfl rfl (y_neq rfl rfl) ?_
          refine o_nil ?_
          refine s_if rfl (fun h3 => ?_) (fun h4 => ?_)
          · refine s_seq ?_
            refine s_region ?_
            refine o_val rfl rfl rfl (y_move (v := (.int _ _)) rfl) ?_
            refine o_val rfl rfl rfl (y_move (v := (.int _ _)) rfl) ?_
            refine o_split rfl rfl rfl (y_eql rfl rfl) (fun p5 => ?_) (fun p6 => ?_)
            · refine o_val rfl rfl rfl (y_move (v := (.bool _)) rfl) ?_
              refine o_guard_yes rfl rfl ?_
              refine o_val rfl rfl rfl (y_move (v := (.slice _ _ _)) rfl) ?_
              refine o_guard_yes rfl rfl ?_
              refine o_val rfl rfl rfl (y_len Try.runUnderlying39 rfl) ?_
              refine o_guard_yes rfl rfl ?_
              refine o_val rfl rfl rfl (y_eql rfl rfl) ?_
              refine o_val rfl rfl rfl (y_pick_t (v := (.bool _)) rfl rfl) ?_
              refine o_val rfl rfl rfl (y_assign (v := (.bool _)) rfl) ?_
              refine o_nil ?_
              refine s_ret ?_
              exact ⟨_, [], res1 rfl rfl, ⟨congrArg Value.bool (decide_eq_true rfl), rfl⟩, sub_picks [] rfl⟩
            · exact absurd hecw p6
          · exact absurd (Decidable.not_not.1 h4) hew
      · exact absurd (hyc.symm.trans hxw) (by simp)
    · obtain ⟨hfm, hde, hfew, hsrt, hback⟩ := clean_all hlk hzn hxw
      have h40 := (resV_ok hxw).1
      rw [List.length_map] at h40 hfew
      have hblw : bn'w = (rawV ks (l.map PfR.d) zn).length := by have := congrArg List.length hfm; rw [List.length_map, List.length_map, List.length_map] at this; omega
      refine o_val rfl rfl rfl (y_move (v := (.tuple #[(.slice _ _ _), (.int _ _)])) rfl) ?_
      refine o_val rfl rfl rfl (y_extract (v := (.slice _ _ _)) rfl rfl) ?_
      refine o_val rfl rfl rfl (y_extract (v := (.int _ _)) rfl rfl) ?_
      refine o_val rfl rfl rfl (y_assign (v := (.slice _ _ _)) rfl) ?_
      refine o_val rfl rfl rfl (y_assign (v := (.int _ _)) rfl) ?_
      refine o_nil ?_
      refine s_forget [(1, (.int _ _)), (2, (.slice _ _ _)), (3, (.int _ _)), (8, (.bool _)), (9, (.slice _ _ _)), (10, (.slice _ _ _)), (11, (.slice _ _ _)), (12, (.int _ _)), (13, (.slice _ _ _)), (14, (.int _ _))] ⟨rfl, rfl, rfl, rfl, rfl, rfl, rfl, rfl, rfl, rfl, trivial⟩ (fun _f => ?_)
      refine s_seq ?_
      refine s_region ?_
      refine o_val rfl rfl rfl (y_move (v := (.slice _ _ _)) rfl) ?_
      refine o_val rfl rfl rfl (y_move (v := (.slice _ _ _)) rfl) ?_
      refine o_val rfl rfl rfl (y_move (v := (.int _ _)) rfl) ?_
      refine o_val rfl rfl rfl (y_move (v := (.slice _ _ _)) rfl) ?_
      refine o_fn 0 (d := 50) rfl Try.call54 (CleanP_c kA ks.length kC ks ⟨rfl, hko.2.1, by omega, (hko.cels (j := 8) rfl).down, fun x hx => (hkx x hx).sub (inG_ext (j := 9) rfl)⟩ hck lA l.length lC l ⟨rfl, hlo.2.1, by omega, (hlo.cels (j := 6) rfl).down, fun x hx => (hlp x hx).sub (inG_ext (j := 7) rfl)⟩ hlk zn hzn (zn : Int) rfl oA on oc os (hos.sub MSub.ext)) rfl ?_
      rintro _ _ (⟨ec, hec, hec0, rfl, rfl⟩ | ⟨bc, dsc, dAc, dnc, dCc, dEc, dPc, hyc, hddc, rfl, hdnc, hdoc, hdxc, rfl⟩)
      · exact absurd (hec.symm.trans hxw) (by simp)
      · have hybc := Except.ok.inj (hyc.symm.trans hxw)
        rw [hybc] at hddc
        have hdlc : dsc.length ≤ 40 := by have := congrArg List.length hddc; rw [List.length_map] at this; omega
        refine o_val rfl rfl rfl (y_move (v := (.tuple #[(.slice _ _ _), (.int _ _)])) rfl) ?_
        refine o_val rfl rfl rfl (y_extract (v := (.slice _ _ _)) rfl rfl) ?_
        refine o_val rfl rfl rfl (y_extract (v := (.int _ _)) rfl rfl) ?_
        refine o_val rfl rfl rfl (y_assign (v := (.slice _ _ _)) rfl) ?_
        refine o_val rfl rfl rfl (y_assign (v := (.int _ _)) rfl) ?_
        refine o_nil ?_
        refine s_seq ?_
        refine s_seq ?_
        refine s_region ?_
        refine o_fn 0 (d := 53) rfl Try.call64 (builds4_c) rfl ?_
        rintro _ _ ⟨rfl, rfl⟩
        refine o_val rfl rfl rfl (y_notb rfl) ?_
        refine o_val rfl rfl rfl (y_move (v := (.bool _)) rfl) ?_
        refine o_guard_yes rfl rfl ?_
        refine o_val rfl rfl rfl (y_move (v := (.int _ _)) rfl) ?_
        refine o_guard_yes rfl rfl ?_
        refine o_val rfl rfl rfl (y_neq rfl rfl) ?_
        refine o_val rfl rfl rfl (y_pick_f (v := (.bool _)) rfl rfl) ?_
        refine o_nil ?_
        refine s_forget [(1, (.int _ _)), (3, (.int _ _)), (8, (.bool _)), (9, (.slice _ _ _)), (10, (.slice _ _ _)), (11, (.slice _ _ _)), (12, (.int _ _)), (13, (.slice _ _ _)), (14, (.int _ _)), (15, (.slice _ _ _)), (16, (.int _ _)), (58, (.bool _))] ⟨rfl, rfl, rfl, rfl, rfl, rfl, rfl, rfl, rfl, rfl, rfl, rfl, trivial⟩ (fun _f => ?_)
        refine s_if rfl (fun h7 => ?_) (fun h8 => ?_)
        · exact absurd rfl h7
        · refine s_skip ?_
          refine s_seq ?_
          refine s_seq ?_
          refine s_region ?_
          refine o_val rfl rfl rfl (y_move (v := (.int _ _)) rfl) ?_
          refine o_val rfl rfl rfl (y_neq rfl rfl) ?_
          refine o_nil ?_
          refine s_if rfl (fun h9 => ?_) (fun h10 => ?_)
          · exact absurd rfl h9
          · refine s_skip ?_
            refine s_seq ?_
            refine s_region ?_
            refine o_val rfl rfl rfl (y_assign (v := (.int _ _)) rfl) ?_
            refine o_nil ?_
            refine s_seq ?_
            refine s_seq ?_
            refine s_region ?_
            refine o_val rfl rfl rfl (y_move (v := (.int _ _)) rfl) ?_
            refine o_val rfl rfl rfl (y_and rfl rfl) ?_
            refine o_val rfl rfl rfl (y_eql rfl rfl) ?_
            refine o_nil ?_
            refine s_if rfl (fun h11 => ?_) (fun h12 => ?_)
            · refine s_region ?_
              refine o_val rfl rfl rfl (y_move (v := (.slice _ _ _)) rfl) ?_
              refine o_val rfl rfl rfl (y_build (vs := []) rfl (PrefabDiffs_k0)) ?_
              refine o_lit (vs := [(0, .agg #[.slice _ _ _, .slice _ _ _])]) rfl rfl (PrefabDiffs_k1 _ _ _ _ _ _) (fun b13 => ?_)
              refine o_append (sz := 2) (bytes := 48) (news := [(.slice _ _ _), (.slice _ _ _)]) 2 rfl Try.underlying28 Try.type35 rfl rfl rfl rfl rfl ho'w rfl rfl (Src.slice Try.underlying28 (cels_own 12 rfl rfl) rfl (by simp [Value.oneCell']) (by simp)) (by omega) (fun A14 c15 E16 ho17 hn18 => ?_)
              have ho19 : OS A14 (bn'w + 1) c15 35 2 ((bs'w ++ [default]).flatMap encB) E16 := os_snoc ho17 rfl
              clear ho17
              refine o_val rfl rfl rfl (y_assign (v := (.slice _ _ _)) rfl) ?_
              refine o_val rfl rfl rfl (y_assign (v := (.int _ _)) rfl) ?_
              refine o_nil ?_
              refine s_norm [_, _, _, _, _, _, _, _, _, _, _, _, [(_, .cells [(.slice _ _ _), (.slice _ _ _)].toArray 35 (0, 0))]] rfl ?_
              refine s_seq ?_
              refine s_region ?_
              refine o_val rfl rfl rfl (y_move (v := (.slice _ _ _)) rfl) ?_
              refine o_val rfl rfl rfl (y_move (v := (.slice _ _ _)) rfl) ?_
              refine o_val rfl rfl rfl (y_move (v := (.int _ _)) rfl) ?_
              refine o_val rfl rfl rfl (y_move (v := (.slice _ _ _)) rfl) ?_
              refine o_fn 0 (d := 86) rfl Try.call53 (DiffP_c kA ks.length kC ks ⟨rfl, hko.2.1, by omega, (hko.cels (j := 10) rfl).down, fun x hx => (hkx x hx).sub (inG_ext (j := 11) rfl)⟩ hck lA l.length lC l ⟨rfl, hlo.2.1, by omega, (hlo.cels (j := 8) rfl).down, fun x hx => (hlp x hx).sub (inG_ext (j := 9) rfl)⟩ hlk zn hzn (zn : Int) rfl A14 (bn'w + 1) c15 (bs'w ++ [default]) (ho19.cels (j := 2) rfl).down (by rw [List.length_append, List.length_singleton, hbnw]) (by omega) (all_snoc (hb'w.want (inG_ext (j := 4) rfl) (inG_ext (j := 3) rfl)) (want_def ks _)) (fun hh => by rw [List.length_append, List.length_singleton] at hh; omega)) rfl ?_
              rintro _ _ (⟨e2, hd2, he2, rfl, rfl⟩ | ⟨ds, dA, dn, dC, dE, dP, hdd, rfl, hdn, hdo, hdx, rfl⟩)
              · have he8 : e2 = 8 := diffE_long (by rw [List.length_map, List.length_append, List.length_singleton]; omega) hd2
                refine o_val rfl rfl rfl (y_move (v := (.tuple #[(.slice _ _ _), (.int _ _)])) rfl) ?_
                refine o_val rfl rfl rfl (y_extract (v := (.slice _ _ _)) rfl rfl) ?_
                refine o_val rfl rfl rfl (y_extract (v := (.int _ _)) rfl rfl) ?_
                refine o_val rfl rfl rfl (y_assign (v := (.slice _ _ _)) rfl) ?_
                refine o_val rfl rfl rfl (y_assign (v := (.int _ _)) rfl) ?_
                refine o_nil ?_
                refine s_forget [(8, (.bool _)), (11, (.slice _ _ _)), (12, (.int _ _)), (13, (.slice _ _ _)), (15, (.slice _ _ _)), (16, (.int _ _)), (17, (.int _ _)), (18, (.slice _ _ _))] ⟨rfl, rfl, rfl, rfl, rfl, rfl, rfl, rfl, trivial⟩ (fun _f => ?_)
                refine s_seq ?_
                refine s_seq ?_
                refine s_region ?_
                refine o_val rfl rfl rfl (y_move (v := (.int _ _)) rfl) ?_
                refine o_val rfl rfl rfl (y_neq rfl rfl) ?_
                refine o_nil ?_
                refine s_if rfl (fun h20 => ?_) (fun h21 => ?_)
                · refine s_seq ?_
                  refine s_region ?_
                  refine o_val rfl rfl rfl (y_move (v := (.int _ _)) rfl) ?_
                  refine o_val rfl rfl rfl (y_move (v := (.int _ _)) rfl) ?_
                  refine o_split rfl rfl rfl (y_eql rfl rfl) (fun p22 => ?_) (fun p23 => ?_)
                  · refine o_val rfl rfl rfl (y_move (v := (.bool _)) rfl) ?_
                    refine o_guard_yes rfl rfl ?_
                    refine o_val rfl rfl rfl (y_move (v := (.slice _ _ _)) rfl) ?_
                    refine o_guard_yes rfl rfl ?_
                    refine o_val rfl rfl rfl (y_len Try.runUnderlying39 rfl) ?_
                    refine o_guard_yes rfl rfl ?_
                    refine o_val rfl rfl rfl (y_eql rfl rfl) ?_
                    refine o_val rfl rfl rfl (y_pick_t (v := (.bool _)) rfl rfl) ?_
                    refine o_val rfl rfl rfl (y_assign (v := (.bool _)) rfl) ?_
                    refine o_nil ?_
                    refine s_ret ?_
                    exact ⟨_, [], res1 rfl rfl, ⟨congrArg Value.bool (decide_eq_true rfl), rfl⟩, sub_picks [] rfl⟩
                  · exact absurd he8 p23
                · exact absurd (by decide) h21
              · unfold diffE at hdd; rw [if_pos (by rw [List.length_map, List.length_append, List.length_singleton]; omega)] at hdd; cases hdd
            · refine s_skip ?_
              refine s_seq ?_
              refine s_region ?_
              refine o_val rfl rfl rfl (y_move (v := (.slice _ _ _)) rfl) ?_
              refine o_val rfl rfl rfl (y_move (v := (.slice _ _ _)) rfl) ?_
              refine o_val rfl rfl rfl (y_move (v := (.int _ _)) rfl) ?_
              refine o_val rfl rfl rfl (y_move (v := (.slice _ _ _)) rfl) ?_
              refine o_fn 0 (d := 86) rfl Try.call53 (DiffP_c kA ks.length kC ks ⟨rfl, hko.2.1, by omega, (hko.cels (j := 10) rfl).down, fun x hx => (hkx x hx).sub (inG_ext (j := 11) rfl)⟩ hck lA l.length lC l ⟨rfl, hlo.2.1, by omega, (hlo.cels (j := 8) rfl).down, fun x hx => (hlp x hx).sub (inG_ext (j := 9) rfl)⟩ hlk zn hzn (zn : Int) rfl B'w bn'w C'w bs'w (ho'w.cels (j := 2) rfl).down hbnw (by omega) (hb'w.want (inG_ext (j := 4) rfl) (inG_ext (j := 3) rfl)) (fun _ => by rw [shape_map]; exact form_shape hfm)) rfl ?_
              rintro _ _ (⟨e2, hd2, he2, rfl, rfl⟩ | ⟨dsd, dAd, dnd, dCd, dEd, dPd, hddd, rfl, hdnd, hdod, hdxd, rfl⟩)
              · exact absurd (hd2.symm.trans hde) (by simp)
              · have hddd := Except.ok.inj (hddd.symm.trans hde)
                have hdld : dsd.length ≤ 40 := by have := congrArg List.length hddd; rw [List.length_map] at this; omega
                refine o_val rfl rfl rfl (y_move (v := (.tuple #[(.slice _ _ _), (.int _ _)])) rfl) ?_
                refine o_val rfl rfl rfl (y_extract (v := (.slice _ _ _)) rfl rfl) ?_
                refine o_val rfl rfl rfl (y_extract (v := (.int _ _)) rfl rfl) ?_
                refine o_val rfl rfl rfl (y_assign (v := (.slice _ _ _)) rfl) ?_
                refine o_val rfl rfl rfl (y_assign (v := (.int _ _)) rfl) ?_
                refine o_nil ?_
                refine s_forget [(8, (.bool _)), (11, (.slice _ _ _)), (12, (.int _ _)), (13, (.slice _ _ _)), (15, (.slice _ _ _)), (16, (.int _ _)), (17, (.int _ _)), (18, (.slice _ _ _))] ⟨rfl, rfl, rfl, rfl, rfl, rfl, rfl, rfl, trivial⟩ (fun _f => ?_)
                refine s_seq ?_
                refine s_seq ?_
                refine s_region ?_
                refine o_val rfl rfl rfl (y_move (v := (.int _ _)) rfl) ?_
                refine o_val rfl rfl rfl (y_neq rfl rfl) ?_
                refine o_nil ?_
                refine s_if rfl (fun h24 => ?_) (fun h25 => ?_)
                · exact absurd rfl h24
                · refine s_skip ?_
                  refine s_seq ?_
                  refine s_region ?_
                  refine o_val rfl rfl rfl (y_move (v := (.slice _ _ _)) rfl) ?_
                  refine o_val rfl rfl rfl (y_move (v := (.slice _ _ _)) rfl) ?_
                  refine o_fn 0 (d := 101) rfl Try.call65 (RRepl_c ks hck B'h bn'h C'h bs'h (ho'h.cels (j := 7) rfl).down hbnh (by omega) (hb'h.want (inG_ext (j := 9) rfl) (inG_ext (j := 8) rfl)) B'w bn'w C'w bs'w (ho'w.cels (j := 4) rfl).down hbnw (by omega) (hb'w.want (inG_ext (j := 6) rfl) (inG_ext (j := 5) rfl)) (by rw [shape_map, shape_map, hbdh]; exact form_shape hfm)) rfl ?_
                  rintro _ _ ⟨rs, rA, rC, rE, rfl, hro, hrx, hrd, rfl⟩
                  rw [hbdh] at hrd
                  have hrl : rs.length ≤ 40 := by have := congrArg List.length hrd; rw [List.length_map] at this; omega
                  refine o_val rfl rfl rfl (y_assign (v := (.slice _ _ _)) rfl) ?_
                  refine o_nil ?_
                  refine s_seq ?_
                  refine s_seq ?_
                  refine s_region ?_
                  refine o_val rfl rfl rfl (y_move (v := (.slice _ _ _)) rfl) ?_
                  refine o_val rfl rfl rfl (y_len Try.runUnderlying39 rfl) ?_
                  refine o_val rfl rfl rfl (y_gtr rfl rfl) ?_
                  refine o_nil ?_
                  refine s_if rfl (fun h26 => ?_) (fun h27 => ?_)
                  · exfalso; omega
                  · refine s_skip ?_
                    refine s_seq ?_
                    refine s_region ?_
                    refine o_val rfl rfl rfl (y_move (v := (.slice _ _ _)) rfl) ?_
                    refine o_fn 0 (d := 113) rfl Try.call66 (CloneO_c rA rs.length rC rs (hro.cels (j := 0) rfl).down rfl (by omega)) rfl ?_
                    rintro _ _ ⟨zA, zC, zE, rfl, hzo, rfl⟩
                    refine o_val rfl rfl rfl (y_assign (v := (.slice _ _ _)) rfl) ?_
                    refine o_nil ?_
                    refine s_seq ?_
                    refine s_region ?_
                    refine o_val rfl rfl rfl (y_move (v := (.slice _ _ _)) rfl) ?_
                    refine o_fn 0 (d := 115) rfl Try.call67 (SortO_c zA rs.length zC rs (hzo.cels (j := 0) rfl).down rfl (by omega) (fun x hx => (hrx x hx).1.sub (ext_picks [2, 3, 4, 5, 6, 7, 8, 9, 10, 11, 12, 13, 14, 15] rfl)) 68 [] Try.call68 (fun x y => cmpL x.ps y.ps) (fun V' x y hx hy => PathC_c x y hx hy) (fun i j h0 hij hj => key_path (srt_ix (by rw [hrd]; exact hsrt) i j h0 hij hj))) rfl ?_
                    rintro _ _ ⟨rfl, rfl⟩
                    refine o_nil ?_
                    refine s_forget [(8, (.bool _)), (12, (.int _ _)), (15, (.slice _ _ _)), (16, (.int _ _)), (18, (.slice _ _ _)), (19, (.slice _ _ _)), (20, (.slice _ _ _))] ⟨rfl, rfl, rfl, rfl, rfl, rfl, rfl, trivial⟩ (fun _f => ?_)
                    refine s_seq ?_
                    refine s_region ?_
                    have hq1 : All2 (fun a b : OvR => a.d = b.d) dsd rs := all2_map.2 (by rw [hddd, hrd])
                    have hq2 : All2 (fun a b : OvR => a.d = b.d) dsc rs := all2_map.2 (by rw [hddc, hrd])
                    refine o_val rfl rfl rfl (y_move (v := (.int _ _)) rfl) ?_
                    refine o_split rfl rfl rfl (y_eql rfl rfl) (fun p28 => ?_) (fun p29 => ?_)
                    · refine o_val rfl rfl rfl (y_move (v := (.bool _)) rfl) ?_
                      refine o_guard_yes rfl rfl ?_
                      refine o_val rfl rfl rfl (y_move (v := (.slice _ _ _)) rfl) ?_
                      refine o_guard_yes rfl rfl ?_
                      refine o_val rfl rfl rfl (y_move (v := (.slice _ _ _)) rfl) ?_
                      refine o_guard_yes rfl rfl ?_
                      refine o_fn 0 (d := 121) rfl Try.call70 (EqualFO_c dAd dnd dCd dsd (hdod.cels (j := 2) rfl).down hdnd (by omega) (fun x hx => (hdxd x hx).1.sub (inG_ext (j := 3) rfl)) rA rs.length rC rs (hro.cels (j := 1) rfl).down rfl (by omega) (fun x hx => (hrx x hx).1.sub (ext_picks [2, 3, 4, 5, 6, 7, 8, 9, 10, 11, 12, 13, 14, 15] rfl)) 71 [] Try.call71 (fun a b => a.d = b.d) (fun V' a b ha hb => SameOv_c a b ha hb)) rfl ?_
                      rintro _ _ ⟨rfl, rfl⟩
                      refine o_split rfl rfl rfl (y_pick_t (v := (.bool _)) rfl rfl) (fun p30 => ?_) (fun p31 => ?_)
                      · refine o_val rfl rfl rfl (y_move (v := (.bool _)) rfl) ?_
                        refine o_guard_yes rfl rfl ?_
                        refine o_val rfl rfl rfl (y_move (v := (.int _ _)) rfl) ?_
                        refine o_guard_yes rfl rfl ?_
                        refine o_split rfl rfl rfl (y_eql rfl rfl) (fun p32 => ?_) (fun p33 => ?_)
                        · refine o_val rfl rfl rfl (y_pick_t (v := (.bool _)) rfl rfl) ?_
                          refine o_val rfl rfl rfl (y_move (v := (.bool _)) rfl) ?_
                          refine o_guard_yes rfl rfl ?_
                          refine o_val rfl rfl rfl (y_move (v := (.slice _ _ _)) rfl) ?_
                          refine o_guard_yes rfl rfl ?_
                          refine o_val rfl rfl rfl (y_move (v := (.slice _ _ _)) rfl) ?_
                          refine o_guard_yes rfl rfl ?_
                          refine o_fn 0 (d := 130) rfl Try.call70 (EqualFO_c dAc dnc dCc dsc (hdoc.cels (j := 4) rfl).down hdnc (by omega) (fun x hx => (hdxc x hx).1.sub (inG_ext (j := 5) rfl)) zA rs.length zC rs (hzo.cels (j := 0) rfl).down rfl (by omega) (fun x hx => (hrx x hx).1.sub (ext_picks [2, 3, 4, 5, 6, 7, 8, 9, 10, 11, 12, 13, 14, 15] rfl)) 71 [] Try.call71 (fun a b => a.d = b.d) (fun V' a b ha hb => SameOv_c a b ha hb)) rfl ?_
                          rintro _ _ ⟨rfl, rfl⟩
                          refine o_val rfl rfl rfl (y_pick_t (v := (.bool _)) rfl rfl) ?_
                          refine o_val rfl rfl rfl (y_assign (v := (.bool _)) rfl) ?_
                          refine o_nil ?_
                          refine s_forget [(8, (.bool _))] ⟨rfl, trivial⟩ (fun _f => ?_)
                          refine s_ret ?_
                          exact ⟨_, [], res1 rfl rfl, ⟨congrArg Value.bool (decide_eq_true hq2), rfl⟩, sub_picks [] rfl⟩
                        · exact absurd rfl p33
                      · exact absurd hq1 p31
                    · exact absurd rfl p29

end Go.Proofs.Ytacmbiohjiogiaa.K
