/- Walks: replacements that come in; the law of the replacements that lead back. No condition beyond what each statement names. -/
import Derived.Test.YtacmbiohjiogiaaProg
import Derived.Test.YtacmbiohjiogiaaK11
import Derived.Test.YtacmbiohjiogiaaK14
import Derived.Test.YtacmbiohjiogiaaK19
import Derived.Test.YtacmbiohjiogiaaM1
import Derived.Test.YtacmbiohjiogiaaM2
import Derived.Test.YtacmbiohjiogiaaW1
import Derived.Test.YtacmbiohjiogiaaW2
import Derived.Test.YtacmbiohjiogiaaW3
import Derived.Test.YtacmbiohjiogiaaW4
import Derived.Test.YtacmbiohjiogiaaW5
import Derived.Test.YtacmbiohjiogiaaW6
import Derived.Test.YtacmbiohjiogiaaW7
import Derived.Test.YtacmbiohjiogiaaX1
import Derived.Test.YtacmbiohjiogiaaP1
import Derived.Test.YtacmbiohjiogiaaP2
import Derived.Test.YtacmbiohjiogiaaP3
import Derived.Test.YtacmbiohjiogiaaP4
import Derived.Test.YtacmbiohjiogiaaP5
import Derived.Test.YtacmbiohjiogiaaP6
import Derived.Test.YtacmbiohjiogiaaP7
import Derived.Test.YtacmbiohjiogiaaP8
import Derived.Test.YtacmbiohjiogiaaP9
import Derived.Test.YtacmbiohjiogiaaP10
import Derived.Test.YtacmbiohjiogiaaP11
import Derived.Test.YtacmbiohjiogiaaP12
set_option linter.unusedVariables false
set_option linter.unusedSimpArgs false
set_option maxRecDepth 100000
set_option maxHeartbeats 1000000
namespace Go.Proofs.Ytacmbiohjiogiaa.K
open Go.RowKit

theorem one_lenI (a : Int) : ([Value.int .i64 a] : List Value).length = 1 := rfl
def encRf (r : Int × Int) : List Value := [.int .i64 r.1, .int .i64 r.2]

theorem opens_ref {H : Type} {enc : TypeId × Value → H} {w : World} {base : Nat} {spare : Nat → Bool} {held : Bool} {Cn : TypeId → DataW H → Prop} {b : Nat} (hC : Cnd Try.prog b Cn) : Opens enc Try.prog w base spare held Cn 145 encRf (fun _ => True) := by
  intro n cs x h hcn
  obtain ⟨hl, hf⟩ := trod_struct_at hC Try.underlying145 h hcn
  rw [show Try.prog.cellsOf 145 = 2 from by kernel_rfl] at hl
  match cs, hl with
  | [c0, c1], _ =>
    obtain ⟨n0, y0, t0, k0⟩ := hf 0 _ rfl
    obtain ⟨a0, e0, r0⟩ := opens_field (opens_int Try.underlying3) (sz := 1) (cs' := [c0]) (by kernel_rfl) t0 k0 rfl
    obtain rfl := (List.cons.inj e0).1
    obtain ⟨n1, y1, t1, k1⟩ := hf 1 _ rfl
    obtain ⟨a1, e1, r1⟩ := opens_field (opens_int Try.underlying3) (sz := 1) (cs' := [c1]) (by kernel_rfl) t1 k1 rfl
    obtain rfl := (List.cons.inj e1).1
    exact ⟨⟨a0, a1⟩, rfl, trivial⟩

/-- A replacement that came in. -/
def OvIn (w : World) (o : OvR) : Prop := OvOK (memOf w) o

theorem opens_ov {H : Type} {enc : TypeId × Value → H} {w : World} {base : Nat} {spare : Nat → Bool} {held : Bool} {Cn : TypeId → DataW H → Prop} {b : Nat} (hC : Cnd Try.prog b Cn) : Opens enc Try.prog w base spare held Cn 147 encOv (OvIn w) := by
  intro n cs x h hcn
  obtain ⟨hl, hf⟩ := trod_struct_at hC Try.underlying147 h hcn
  rw [show Try.prog.cellsOf 147 = 4 from by kernel_rfl] at hl
  match cs, hl with
  | [c0, c1, c2, c3], _ =>
    obtain ⟨n0, y0, t0, k0⟩ := hf 0 _ rfl
    obtain ⟨q, e0, r0⟩ := opens_field (opens_slice hC one_lenI (by decide) Try.underlying22 (by kernel_rfl) (by_ := 8) (by kernel_rfl) (opens_int Try.underlying3)) (sz := 1) (cs' := [c0]) (by kernel_rfl) t0 k0 rfl
    obtain rfl := (List.cons.inj e0).1
    obtain ⟨n1, y1, t1, k1⟩ := hf 1 _ rfl
    obtain ⟨rf, e1, r1⟩ := opens_field (opens_ref hC) (sz := 2) (cs' := [c1, c2]) (by kernel_rfl) t1 k1 rfl
    obtain ⟨rfl, rfl⟩ : c1 = .int .i64 rf.1 ∧ c2 = .int .i64 rf.2 := by simpa [encRf] using e1
    obtain ⟨n2, y2, t2, k2⟩ := hf 2 _ rfl
    obtain ⟨a2, e2, r2⟩ := opens_field (opens_int Try.underlying3) (sz := 1) (cs' := [c3]) (by kernel_rfl) t2 k2 rfl
    obtain rfl := (List.cons.inj e2).1
    exact ⟨⟨q.A, q.n, q.c, q.xs, rf.1, rf.2, a2⟩, rfl, ⟨r0.len, r0.cap, by have := r0.reach; dsimp only; omega, (flat_one q.xs).symm ▸ r0.cels⟩⟩

theorem opens_ovs {H : Type} {enc : TypeId × Value → H} {w : World} {base : Nat} {spare : Nat → Bool} {held : Bool} {Cn : TypeId → DataW H → Prop} {b : Nat} (hC : Cnd Try.prog b Cn) : Opens enc Try.prog w base spare held Cn 39 encS (SOK (memOf w) 48 b encOv (OvIn w)) :=
  opens_slice hC encOv_len (by decide) Try.underlying39 (by kernel_rfl) (by kernel_rfl) (opens_ov hC)
theorem ovs_in {w : World} {A : Option Addr} {n c b : Nat} {xs : List OvR} (h : SOK (memOf w) 48 b encOv (OvIn w) ⟨A, n, c, xs⟩) : OsOK (memOf w) A n c xs := ⟨h.len, h.cap, by have hr : n * 48 ≤ _ := h.reach; omega, h.cels, h.all⟩

theorem BsOK.binn {ks : List KR} {M V : Mem} {bs : List BR} {gs : List Grp} (h : BsOK ks M bs gs) (hM : MSub M V) (hG : MSub (inG gs.flatten) V) : ∀ b ∈ bs, BinOK V b := fun b hb => ⟨(h.want hM hG b hb).1, (h.want hM hG b hb).2.1⟩

theorem PrefabBack_c {V : Mem} (A : Option Addr) (n c : Nat) (xs : List Int) (h : Cels V [] A (xs.map (.int .i64))) (hn : xs.length = n) (hc : n ≤ c) (m : Int) (oA : Option Addr) (on oc : Nat) (os : List OvR) (hos : OsOK V oA on oc os) : CallS Try.prog 9 [.slice A n c, .int .i64 m, .slice oA on oc].toArray V [] (fun r L' => r = .bool true ∧ L' = []) := by
  have hosl := hos.1
  refine callS Try.func9 rfl rfl (fun w0 => ?_)
  refine s_seq ?_
  refine s_region ?_
  refine o_val rfl rfl rfl (y_assign (v := (.bool _)) rfl) ?_
  refine o_nil ?_
  refine s_seq ?_
  refine s_region ?_
  refine o_val rfl rfl rfl (y_move (v := (.slice _ _ _)) rfl) ?_
  refine o_fn 0 (d := 19) rfl Try.call16 (GenKs_c A n c xs h.here.down hn hc) rfl ?_
  rintro _ _ ⟨kA, kC, kE, kP, ks, rfl, hko, hkx, hkg, hk1, rfl⟩
  have hck := kindsG_ok hkg
  have hk4 := hkg.1
  refine o_val rfl rfl rfl (y_assign (v := (.slice _ _ _)) rfl) ?_
  refine o_nil ?_
  refine s_seq ?_
  refine s_region ?_
  refine o_val rfl rfl rfl (y_move (v := (.slice _ _ _)) rfl) ?_
  refine o_val rfl rfl rfl (y_move (v := (.slice _ _ _)) rfl) ?_
  refine o_fn 0 (d := 22) rfl Try.call17 (GenP_c kA ks.length kC ks ⟨rfl, hko.2.1, by omega, (hko.cels (j := 0) rfl).down, fun x hx => (hkx x hx).sub (inG_ext (j := 1) rfl)⟩ hkg A n c xs h.here.down hn hc) rfl ?_
  rintro _ _ ⟨lA, lC, l, lE, lP, rfl, hlo, hlp, hlk, hl1, rfl⟩
  have hl4 := hlk.1
  refine o_val rfl rfl rfl (y_assign (v := (.slice _ _ _)) rfl) ?_
  refine o_nil ?_
  refine s_seq ?_
  refine s_region ?_
  refine o_val rfl rfl rfl (y_move (v := (.int _ _)) rfl) ?_
  refine o_val rfl rfl rfl (y_move (v := (.slice _ _ _)) rfl) ?_
  refine o_val rfl rfl rfl (y_len Try.runUnderlying25 rfl) ?_
  refine o_fn 0 (d := 26) rfl Try.call18 (Below_c _ _ (by omega)) rfl ?_
  rintro _ _ ⟨z, rfl, hz0, hz1, rfl⟩
  obtain ⟨zn, rfl⟩ : ∃ zn : Nat, z = zn := ⟨z.toNat, by omega⟩
  have hzn : zn < l.length := by omega
  refine o_val rfl rfl rfl (y_assign (v := (.int _ _)) rfl) ?_
  refine o_nil ?_
  refine s_forget [(1, (.int _ _)), (2, (.slice _ _ _)), (6, (.bool _)), (7, (.slice _ _ _)), (8, (.slice _ _ _))] ⟨rfl, rfl, rfl, rfl, rfl, trivial⟩ (fun _f => ?_)
  refine s_seq ?_
  refine s_region ?_
  refine o_val rfl rfl rfl (y_move (v := (.slice _ _ _)) rfl) ?_
  refine o_val rfl rfl rfl (y_move (v := (.slice _ _ _)) rfl) ?_
  refine o_val rfl rfl rfl (y_move (v := (.int _ _)) rfl) ?_
  refine o_val rfl rfl rfl (y_move (v := (.slice _ _ _)) rfl) ?_
  refine o_fn 0 (d := 32) rfl Try.call19 (Build_c kA ks.length kC ks ⟨rfl, hko.2.1, by omega, (hko.cels (j := 2) rfl).down, fun x hx => (hkx x hx).sub (inG_ext (j := 3) rfl)⟩ hck lA l.length lC l ⟨rfl, hlo.2.1, by omega, (hlo.cels (j := 0) rfl).down, fun x hx => (hlp x hx).sub (inG_ext (j := 1) rfl)⟩ hlk zn hzn (zn : Int) rfl oA on oc os (hos.sub MSub.ext)) rfl ?_
  rintro _ _ (⟨e, hx, he, rfl, rfl⟩ | ⟨bs', gs', B', bn', C', E', P', hx, rfl, hbn, ho', hb', rfl⟩)
  · refine o_val rfl rfl rfl (y_move (v := (.tuple #[(.slice _ _ _), (.int _ _)])) rfl) ?_
    refine o_val rfl rfl rfl (y_extract (v := (.slice _ _ _)) rfl rfl) ?_
    refine o_val rfl rfl rfl (y_extract (v := (.int _ _)) rfl rfl) ?_
    refine o_val rfl rfl rfl (y_assign (v := (.slice _ _ _)) rfl) ?_
    refine o_val rfl rfl rfl (y_assign (v := (.int _ _)) rfl) ?_
    refine o_nil ?_
    refine s_seq ?_
    refine s_seq ?_
    refine s_region ?_
    refine o_fn 0 (d := 35) rfl Try.call20 (builds_c) rfl ?_
    rintro _ _ ⟨rfl, rfl⟩
    refine o_val rfl rfl rfl (y_notb rfl) ?_
    refine o_val rfl rfl rfl (y_move (v := (.bool _)) rfl) ?_
    refine o_guard_yes rfl rfl ?_
    refine o_val rfl rfl rfl (y_move (v := (.int _ _)) rfl) ?_
    refine o_guard_yes rfl rfl ?_
    refine o_val rfl rfl rfl (y_neq rfl rfl) ?_
    refine o_val rfl rfl rfl (y_pick_f (v := (.bool _)) rfl rfl) ?_
    refine o_nil ?_
    refine s_forget [(1, (.int _ _)), (2, (.slice _ _ _)), (6, (.bool _)), (7, (.slice _ _ _)), (8, (.slice _ _ _)), (9, (.slice _ _ _)), (10, (.int _ _)), (40, (.bool _))] ⟨rfl, rfl, rfl, rfl, rfl, rfl, rfl, rfl, trivial⟩ (fun _f => ?_)
    refine s_if rfl (fun h1 => ?_) (fun h2 => ?_)
    · refine s_seq ?_
      refine s_region ?_
      refine o_fn 0 (d := 41) rfl Try.call20 (builds_c) rfl ?_
      rintro _ _ ⟨rfl, rfl⟩
      refine o_val rfl rfl rfl (y_move (v := (.bool _)) rfl) ?_
      refine o_guard_yes rfl rfl ?_
      refine o_val rfl rfl rfl (y_move (v := (.slice _ _ _)) rfl) ?_
      refine o_guard_yes rfl rfl ?_
      refine o_val rfl rfl rfl (y_len Try.runUnderlying28 rfl) ?_
      refine o_guard_yes rfl rfl ?_
      refine o_val rfl rfl rfl (y_eql rfl rfl) ?_
      refine o_val rfl rfl rfl (y_pick_t (v := (.bool _)) rfl rfl) ?_
      refine o_val rfl rfl rfl (y_assign (v := (.bool _)) rfl) ?_
      refine o_nil ?_
      refine s_ret ?_
      exact ⟨_, [], res1 rfl rfl, ⟨congrArg Value.bool (decide_eq_true rfl), rfl⟩, sub_picks [] rfl⟩
    · exact absurd (Decidable.not_not.1 h2) he
  · obtain ⟨hfm, hde, hfew, hsrt, hback⟩ := clean_all hlk hzn hx
    have h40 := (resV_ok hx).1
    rw [List.length_map] at h40 hfew
    have hg := hlk.2.1
    have hb15 := rawV_15 (fun i hi => hg i (by omega)) (show zn ≤ 3 by omega)
    have hbl : bn' = (rawV ks (l.map PfR.d) zn).length := by have := congrArg List.length hfm; rw [List.length_map, List.length_map, List.length_map] at this; omega
    refine o_val rfl rfl rfl (y_move (v := (.tuple #[(.slice _ _ _), (.int _ _)])) rfl) ?_
    refine o_val rfl rfl rfl (y_extract (v := (.slice _ _ _)) rfl rfl) ?_
    refine o_val rfl rfl rfl (y_extract (v := (.int _ _)) rfl rfl) ?_
    refine o_val rfl rfl rfl (y_assign (v := (.slice _ _ _)) rfl) ?_
    refine o_val rfl rfl rfl (y_assign (v := (.int _ _)) rfl) ?_
    refine o_nil ?_
    refine s_seq ?_
    refine s_seq ?_
    refine s_region ?_
    refine o_fn 0 (d := 35) rfl Try.call20 (builds_c) rfl ?_
    rintro _ _ ⟨rfl, rfl⟩
    refine o_val rfl rfl rfl (y_notb rfl) ?_
    refine o_val rfl rfl rfl (y_move (v := (.bool _)) rfl) ?_
    refine o_guard_yes rfl rfl ?_
    refine o_val rfl rfl rfl (y_move (v := (.int _ _)) rfl) ?_
    refine o_guard_yes rfl rfl ?_
    refine o_val rfl rfl rfl (y_neq rfl rfl) ?_
    refine o_val rfl rfl rfl (y_pick_f (v := (.bool _)) rfl rfl) ?_
    refine o_nil ?_
    refine s_forget [(1, (.int _ _)), (2, (.slice _ _ _)), (6, (.bool _)), (7, (.slice _ _ _)), (8, (.slice _ _ _)), (9, (.slice _ _ _)), (10, (.int _ _)), (40, (.bool _))] ⟨rfl, rfl, rfl, rfl, rfl, rfl, rfl, rfl, trivial⟩ (fun _f => ?_)
    refine s_if rfl (fun h3 => ?_) (fun h4 => ?_)
    · exact absurd rfl h3
    · refine s_skip ?_
      refine s_seq ?_
      refine s_region ?_
      refine o_val rfl rfl rfl (y_move (v := (.slice _ _ _)) rfl) ?_
      refine o_val rfl rfl rfl (y_move (v := (.slice _ _ _)) rfl) ?_
      refine o_val rfl rfl rfl (y_move (v := (.int _ _)) rfl) ?_
      refine o_val rfl rfl rfl (y_move (v := (.slice _ _ _)) rfl) ?_
      refine o_fn 0 (d := 52) rfl Try.call53 (DiffP_c kA ks.length kC ks ⟨rfl, hko.2.1, by omega, (hko.cels (j := 5) rfl).down, fun x hx => (hkx x hx).sub (inG_ext (j := 6) rfl)⟩ hck lA l.length lC l ⟨rfl, hlo.2.1, by omega, (hlo.cels (j := 3) rfl).down, fun x hx => (hlp x hx).sub (inG_ext (j := 4) rfl)⟩ hlk zn hzn (zn : Int) rfl B' bn' C' bs' (ho'.cels (j := 0) rfl).down hbn (by omega) (hb'.want (inG_ext (j := 2) rfl) (inG_ext (j := 1) rfl)) (fun _ => by rw [shape_map]; exact form_shape hfm)) rfl ?_
      rintro _ _ (⟨e2, hd2, he2, rfl, rfl⟩ | ⟨ds, dA, dn, dC, dE, dP, hdd, rfl, hdn, hdo, hdx, rfl⟩)
      · exact absurd (hd2.symm.trans hde) (by simp)
      · have hdd := Except.ok.inj (hdd.symm.trans hde)
        have hdl : ds.length ≤ os.length := by have := congrArg List.length hdd; rw [List.length_map] at this; omega
        refine o_val rfl rfl rfl (y_move (v := (.tuple #[(.slice _ _ _), (.int _ _)])) rfl) ?_
        refine o_val rfl rfl rfl (y_extract (v := (.slice _ _ _)) rfl rfl) ?_
        refine o_val rfl rfl rfl (y_extract (v := (.int _ _)) rfl rfl) ?_
        refine o_val rfl rfl rfl (y_assign (v := (.slice _ _ _)) rfl) ?_
        refine o_val rfl rfl rfl (y_assign (v := (.int _ _)) rfl) ?_
        refine o_nil ?_
        refine s_seq ?_
        refine s_region ?_
        refine o_val rfl rfl rfl (y_move (v := (.slice _ _ _)) rfl) ?_
        refine o_val rfl rfl rfl (y_move (v := (.slice _ _ _)) rfl) ?_
        refine o_val rfl rfl rfl (y_move (v := (.int _ _)) rfl) ?_
        refine o_val rfl rfl rfl (y_move (v := (.slice _ _ _)) rfl) ?_
        refine o_fn 0 (d := 60) rfl Try.call54 (CleanP_c kA ks.length kC ks ⟨rfl, hko.2.1, by omega, (hko.cels (j := 7) rfl).down, fun x hx => (hkx x hx).sub (inG_ext (j := 8) rfl)⟩ hck lA l.length lC l ⟨rfl, hlo.2.1, by omega, (hlo.cels (j := 5) rfl).down, fun x hx => (hlp x hx).sub (inG_ext (j := 6) rfl)⟩ hlk zn hzn (zn : Int) rfl oA on oc os (hos.sub MSub.ext)) rfl ?_
        rintro _ _ (⟨e3, he3, _, rfl, rfl⟩ | ⟨bc, dsc, dAc, dnc, dCc, dEc, dPc, hyc, hddc, rfl, hdnc, hdoc, hdxc, rfl⟩)
        · exact absurd (he3.symm.trans hx) (by simp)
        · have hybc := Except.ok.inj (hyc.symm.trans hx)
          rw [hybc] at hddc
          have hdlc : dsc.length = ds.length := by have h1 := congrArg List.length hddc; have h2 := congrArg List.length hdd; rw [List.length_map] at h1 h2; omega
          refine o_val rfl rfl rfl (y_move (v := (.tuple #[(.slice _ _ _), (.int _ _)])) rfl) ?_
          refine o_val rfl rfl rfl (y_extract (v := (.slice _ _ _)) rfl rfl) ?_
          refine o_val rfl rfl rfl (y_extract (v := (.int _ _)) rfl rfl) ?_
          refine o_val rfl rfl rfl (y_assign (v := (.slice _ _ _)) rfl) ?_
          refine o_val rfl rfl rfl (y_assign (v := (.int _ _)) rfl) ?_
          refine o_nil ?_
          refine s_forget [(1, (.int _ _)), (2, (.slice _ _ _)), (6, (.bool _)), (7, (.slice _ _ _)), (8, (.slice _ _ _)), (9, (.slice _ _ _)), (10, (.int _ _)), (11, (.slice _ _ _)), (12, (.slice _ _ _)), (13, (.int _ _))] ⟨rfl, rfl, rfl, rfl, rfl, rfl, rfl, rfl, rfl, rfl, trivial⟩ (fun _f => ?_)
          refine s_seq ?_
          refine s_seq ?_
          refine s_region ?_
          refine o_val rfl rfl rfl (y_move (v := (.int _ _)) rfl) ?_
          refine o_split rfl rfl rfl (y_neq rfl rfl) (fun p5 => ?_) (fun p6 => ?_)
          · exact absurd rfl p5
          · refine o_val rfl rfl rfl (y_move (v := (.bool _)) rfl) ?_
            refine o_guard_yes rfl rfl ?_
            refine o_val rfl rfl rfl (y_move (v := (.int _ _)) rfl) ?_
            refine o_guard_yes rfl rfl ?_
            refine o_split rfl rfl rfl (y_neq rfl rfl) (fun p7 => ?_) (fun p8 => ?_)
            · exact absurd rfl p7
            · refine o_val rfl rfl rfl (y_pick_f (v := (.bool _)) rfl rfl) ?_
              refine o_val rfl rfl rfl (y_move (v := (.bool _)) rfl) ?_
              refine o_guard_yes rfl rfl ?_
              refine o_val rfl rfl rfl (y_move (v := (.slice _ _ _)) rfl) ?_
              refine o_guard_yes rfl rfl ?_
              refine o_val rfl rfl rfl (y_len Try.runUnderlying39 rfl) ?_
              refine o_guard_yes rfl rfl ?_
              refine o_val rfl rfl rfl (y_move (v := (.slice _ _ _)) rfl) ?_
              refine o_guard_yes rfl rfl ?_
              refine o_val rfl rfl rfl (y_len Try.runUnderlying39 rfl) ?_
              refine o_guard_yes rfl rfl ?_
              refine o_split rfl rfl rfl (y_gtr rfl rfl) (fun p9 => ?_) (fun p10 => ?_)
              · exfalso; omega
              · refine o_val rfl rfl rfl (y_pick_f (v := (.bool _)) rfl rfl) ?_
                refine o_val rfl rfl rfl (y_move (v := (.bool _)) rfl) ?_
                refine o_guard_yes rfl rfl ?_
                refine o_val rfl rfl rfl (y_move (v := (.slice _ _ _)) rfl) ?_
                refine o_guard_yes rfl rfl ?_
                refine o_val rfl rfl rfl (y_len Try.runUnderlying39 rfl) ?_
                refine o_guard_yes rfl rfl ?_
                refine o_val rfl rfl rfl (y_move (v := (.slice _ _ _)) rfl) ?_
                refine o_guard_yes rfl rfl ?_
                refine o_val rfl rfl rfl (y_len Try.runUnderlying39 rfl) ?_
                refine o_guard_yes rfl rfl ?_
                refine o_val rfl rfl rfl (y_neq rfl rfl) ?_
                refine o_val rfl rfl rfl (y_pick_f (v := (.bool _)) rfl rfl) ?_
                refine o_nil ?_
                refine s_forget [(1, (.int _ _)), (6, (.bool _)), (7, (.slice _ _ _)), (8, (.slice _ _ _)), (9, (.slice _ _ _)), (10, (.int _ _)), (11, (.slice _ _ _)), (12, (.slice _ _ _)), (13, (.int _ _)), (82, (.bool _))] ⟨rfl, rfl, rfl, rfl, rfl, rfl, rfl, rfl, rfl, rfl, trivial⟩ (fun _f => ?_)
                refine s_if rfl (fun h11 => ?_) (fun h12 => ?_)
                · exfalso; omega
                · refine s_skip ?_
                  refine s_seq ?_
                  refine s_region ?_
                  refine o_val rfl rfl rfl (y_move (v := (.slice _ _ _)) rfl) ?_
                  refine o_val rfl rfl rfl (y_move (v := (.slice _ _ _)) rfl) ?_
                  refine o_val rfl rfl rfl (y_move (v := (.int _ _)) rfl) ?_
                  refine o_val rfl rfl rfl (y_move (v := (.slice _ _ _)) rfl) ?_
                  refine o_fn 0 (d := 88) rfl Try.call19 (Build_c kA ks.length kC ks ⟨rfl, hko.2.1, by omega, (hko.cels (j := 9) rfl).down, fun x hx => (hkx x hx).sub (inG_ext (j := 10) rfl)⟩ hck lA l.length lC l ⟨rfl, hlo.2.1, by omega, (hlo.cels (j := 7) rfl).down, fun x hx => (hlp x hx).sub (inG_ext (j := 8) rfl)⟩ hlk zn hzn (zn : Int) rfl dA dn dC ds ⟨hdn, hdo.2.1, by omega, (hdo.cels (j := 2) rfl).down, fun x hx => (hdx x hx).1.sub (inG_ext (j := 3) rfl)⟩) rfl ?_
                  rintro _ _ (⟨e2, hx2, he2, rfl, rfl⟩ | ⟨bs'2, gs'2, B'2, bn'2, C'2, E'2, P'2, hx2, rfl, hbn2, ho'2, hb'2, rfl⟩)
                  · exact absurd (hx2.symm.trans (show resV ks (l.map PfR.d) zn (ds.map OvR.d) = .ok (bs'.map BR.d) by rw [hdd]; exact hback)) (by simp)
                  · have hsm2 := Except.ok.inj (hx2.symm.trans (show resV ks (l.map PfR.d) zn (ds.map OvR.d) = .ok (bs'.map BR.d) by rw [hdd]; exact hback))
                    have hbn12 : bn'2 = bn' := by have := congrArg List.length hsm2; rw [List.length_map, List.length_map] at this; omega
                    refine o_val rfl rfl rfl (y_move (v := (.tuple #[(.slice _ _ _), (.int _ _)])) rfl) ?_
                    refine o_val rfl rfl rfl (y_extract (v := (.slice _ _ _)) rfl rfl) ?_
                    refine o_val rfl rfl rfl (y_extract (v := (.int _ _)) rfl rfl) ?_
                    refine o_val rfl rfl rfl (y_assign (v := (.slice _ _ _)) rfl) ?_
                    refine o_val rfl rfl rfl (y_assign (v := (.int _ _)) rfl) ?_
                    refine o_nil ?_
                    refine s_seq ?_
                    refine s_region ?_
                    refine o_val rfl rfl rfl (y_move (v := (.slice _ _ _)) rfl) ?_
                    refine o_val rfl rfl rfl (y_move (v := (.slice _ _ _)) rfl) ?_
                    refine o_val rfl rfl rfl (y_move (v := (.int _ _)) rfl) ?_
                    refine o_val rfl rfl rfl (y_move (v := (.slice _ _ _)) rfl) ?_
                    refine o_fn 0 (d := 96) rfl Try.call19 (Build_c kA ks.length kC ks ⟨rfl, hko.2.1, by omega, (hko.cels (j := 12) rfl).down, fun x hx => (hkx x hx).sub (inG_ext (j := 13) rfl)⟩ hck lA l.length lC l ⟨rfl, hlo.2.1, by omega, (hlo.cels (j := 10) rfl).down, fun x hx => (hlp x hx).sub (inG_ext (j := 11) rfl)⟩ hlk zn hzn (zn : Int) rfl dAc dnc dCc dsc ⟨hdnc, hdoc.2.1, by omega, (hdoc.cels (j := 3) rfl).down, fun x hx => (hdxc x hx).1.sub (inG_ext (j := 4) rfl)⟩) rfl ?_
                    rintro _ _ (⟨e3, hx3, he3, rfl, rfl⟩ | ⟨bs'3, gs'3, B'3, bn'3, C'3, E'3, P'3, hx3, rfl, hbn3, ho'3, hb'3, rfl⟩)
                    · exact absurd (hx3.symm.trans (show resV ks (l.map PfR.d) zn (dsc.map OvR.d) = .ok (bs'.map BR.d) by rw [hddc]; exact hback)) (by simp)
                    · have hsm3 := Except.ok.inj (hx3.symm.trans (show resV ks (l.map PfR.d) zn (dsc.map OvR.d) = .ok (bs'.map BR.d) by rw [hddc]; exact hback))
                      have hbn13 : bn'3 = bn' := by have := congrArg List.length hsm3; rw [List.length_map, List.length_map] at this; omega
                      refine o_val rfl rfl rfl (y_move (v := (.tuple #[(.slice _ _ _), (.int _ _)])) rfl) ?_
                      refine o_val rfl rfl rfl (y_extract (v := (.slice _ _ _)) rfl rfl) ?_
                      refine o_val rfl rfl rfl (y_extract (v := (.int _ _)) rfl rfl) ?_
                      refine o_val rfl rfl rfl (y_assign (v := (.slice _ _ _)) rfl) ?_
                      refine o_val rfl rfl rfl (y_assign (v := (.int _ _)) rfl) ?_
                      refine o_nil ?_
                      refine s_forget [(1, (.int _ _)), (6, (.bool _)), (7, (.slice _ _ _)), (8, (.slice _ _ _)), (9, (.slice _ _ _)), (10, (.int _ _)), (12, (.slice _ _ _)), (13, (.int _ _)), (14, (.slice _ _ _)), (15, (.slice _ _ _))] ⟨rfl, rfl, rfl, rfl, rfl, rfl, rfl, rfl, rfl, rfl, trivial⟩ (fun _f => ?_)
                      refine s_seq ?_
                      refine s_region ?_
                      refine o_val rfl rfl rfl (y_move (v := (.slice _ _ _)) rfl) ?_
                      refine o_val rfl rfl rfl (y_move (v := (.slice _ _ _)) rfl) ?_
                      refine o_val rfl rfl rfl (y_move (v := (.int _ _)) rfl) ?_
                      refine o_val rfl rfl rfl (y_move (v := (.slice _ _ _)) rfl) ?_
                      refine o_fn 0 (d := 104) rfl Try.call54 (CleanP_c kA ks.length kC ks ⟨rfl, hko.2.1, by omega, (hko.cels (j := 15) rfl).down, fun x hx => (hkx x hx).sub (inG_ext (j := 16) rfl)⟩ hck lA l.length lC l ⟨rfl, hlo.2.1, by omega, (hlo.cels (j := 13) rfl).down, fun x hx => (hlp x hx).sub (inG_ext (j := 14) rfl)⟩ hlk zn hzn (zn : Int) rfl dAc dnc dCc dsc ⟨hdnc, hdoc.2.1, by omega, (hdoc.cels (j := 6) rfl).down, fun x hx => (hdxc x hx).1.sub (inG_ext (j := 7) rfl)⟩) rfl ?_
                      rintro _ _ (⟨e3, he3, _, rfl, rfl⟩ | ⟨bg, dsg, dAg, dng, dCg, dEg, dPg, hyg, hddg, rfl, hdng, hdog, hdxg, rfl⟩)
                      · exact absurd (he3.symm.trans (show resV ks (l.map PfR.d) zn (dsc.map OvR.d) = .ok (bs'.map BR.d) by rw [hddc]; exact hback)) (by simp)
                      · have hybg := Except.ok.inj (hyg.symm.trans (show resV ks (l.map PfR.d) zn (dsc.map OvR.d) = .ok (bs'.map BR.d) by rw [hddc]; exact hback))
                        rw [hybg] at hddg
                        have hdlg : dsg.length = ds.length := by have h1 := congrArg List.length hddg; have h2 := congrArg List.length hdd; rw [List.length_map] at h1 h2; omega
                        refine o_val rfl rfl rfl (y_move (v := (.tuple #[(.slice _ _ _), (.int _ _)])) rfl) ?_
                        refine o_val rfl rfl rfl (y_extract (v := (.slice _ _ _)) rfl rfl) ?_
                        refine o_val rfl rfl rfl (y_extract (v := (.int _ _)) rfl rfl) ?_
                        refine o_val rfl rfl rfl (y_assign (v := (.slice _ _ _)) rfl) ?_
                        refine o_val rfl rfl rfl (y_assign (v := (.int _ _)) rfl) ?_
                        refine o_nil ?_
                        refine s_seq ?_
                        refine s_region ?_
                        refine o_val rfl rfl rfl (y_move (v := (.int _ _)) rfl) ?_
                        refine o_split rfl rfl rfl (y_eql rfl rfl) (fun p13 => ?_) (fun p14 => ?_)
                        · refine o_val rfl rfl rfl (y_move (v := (.bool _)) rfl) ?_
                          refine o_guard_yes rfl rfl ?_
                          refine o_val rfl rfl rfl (y_move (v := (.int _ _)) rfl) ?_
                          refine o_guard_yes rfl rfl ?_
                          refine o_split rfl rfl rfl (y_eql rfl rfl) (fun p15 => ?_) (fun p16 => ?_)
                          · refine o_val rfl rfl rfl (y_pick_t (v := (.bool _)) rfl rfl) ?_
                            refine o_val rfl rfl rfl (y_move (v := (.bool _)) rfl) ?_
                            refine o_guard_yes rfl rfl ?_
                            refine o_val rfl rfl rfl (y_move (v := (.int _ _)) rfl) ?_
                            refine o_guard_yes rfl rfl ?_
                            refine o_split rfl rfl rfl (y_eql rfl rfl) (fun p17 => ?_) (fun p18 => ?_)
                            · refine o_val rfl rfl rfl (y_pick_t (v := (.bool _)) rfl rfl) ?_
                              refine o_val rfl rfl rfl (y_move (v := (.bool _)) rfl) ?_
                              refine o_guard_yes rfl rfl ?_
                              refine o_val rfl rfl rfl (y_move (v := (.slice _ _ _)) rfl) ?_
                              refine o_guard_yes rfl rfl ?_
                              refine o_val rfl rfl rfl (y_move (v := (.slice _ _ _)) rfl) ?_
                              refine o_guard_yes rfl rfl ?_
                              refine o_fn 0 (d := 120) rfl Try.call55 (sameBuilt_c B'2 bn'2 C'2 bs'2 (ho'2.cels (j := 5) rfl).down hbn2 (by omega) (hb'2.binn (inG_ext (j := 7) rfl) (inG_ext (j := 6) rfl)) B' bn' C' bs' (ho'.cels (j := 12) rfl).down hbn (by omega) (hb'.binn (inG_ext (j := 14) rfl) (inG_ext (j := 13) rfl))) rfl ?_
                              rintro _ _ ⟨rfl, rfl⟩
                              refine o_split rfl rfl rfl (y_pick_t (v := (.bool _)) rfl rfl) (fun p19 => ?_) (fun p20 => ?_)
                              · refine o_val rfl rfl rfl (y_move (v := (.bool _)) rfl) ?_
                                refine o_guard_yes rfl rfl ?_
                                refine o_val rfl rfl rfl (y_move (v := (.slice _ _ _)) rfl) ?_
                                refine o_guard_yes rfl rfl ?_
                                refine o_val rfl rfl rfl (y_move (v := (.slice _ _ _)) rfl) ?_
                                refine o_guard_yes rfl rfl ?_
                                refine o_fn 0 (d := 125) rfl Try.call55 (sameBuilt_c B'3 bn'3 C'3 bs'3 (ho'3.cels (j := 2) rfl).down hbn3 (by omega) (hb'3.binn (inG_ext (j := 4) rfl) (inG_ext (j := 3) rfl)) B' bn' C' bs' (ho'.cels (j := 12) rfl).down hbn (by omega) (hb'.binn (inG_ext (j := 14) rfl) (inG_ext (j := 13) rfl))) rfl ?_
                                rintro _ _ ⟨rfl, rfl⟩
                                refine o_split rfl rfl rfl (y_pick_t (v := (.bool _)) rfl rfl) (fun p21 => ?_) (fun p22 => ?_)
                                · refine o_val rfl rfl rfl (y_move (v := (.bool _)) rfl) ?_
                                  refine o_guard_yes rfl rfl ?_
                                  refine o_val rfl rfl rfl (y_move (v := (.slice _ _ _)) rfl) ?_
                                  refine o_guard_yes rfl rfl ?_
                                  refine o_val rfl rfl rfl (y_len Try.runUnderlying39 rfl) ?_
                                  refine o_guard_yes rfl rfl ?_
                                  refine o_val rfl rfl rfl (y_move (v := (.slice _ _ _)) rfl) ?_
                                  refine o_guard_yes rfl rfl ?_
                                  refine o_val rfl rfl rfl (y_len Try.runUnderlying39 rfl) ?_
                                  refine o_guard_yes rfl rfl ?_
                                  refine o_val rfl rfl rfl (y_eql rfl rfl) ?_
                                  refine o_val rfl rfl rfl (y_pick_t (v := (.bool _)) rfl rfl) ?_
                                  refine o_val rfl rfl rfl (y_assign (v := (.bool _)) rfl) ?_
                                  refine o_nil ?_
                                  refine s_forget [(6, (.bool _))] ⟨rfl, trivial⟩ (fun _f => ?_)
                                  refine s_ret ?_
                                  exact ⟨_, [], res1 rfl rfl, ⟨congrArg Value.bool (decide_eq_true (show ((dng : Nat) : Int) = ((dnc : Nat) : Int) by omega)), rfl⟩, sub_picks [] rfl⟩
                                · exact absurd hsm3 p22
                              · exact absurd hsm2 p20
                            · exact absurd rfl p18
                          · exact absurd rfl p16
                        · exact absurd rfl p14

end Go.Proofs.Ytacmbiohjiogiaa.K
