/- Walks over the package merge: entities merged. No condition beyond what each statement names. -/
import Derived.Test.YtacmbiohjiogiaaProg
import Derived.Test.YtacmbiohjiogiaaK17
import Derived.Test.YtacmbiohjiogiaaM1
import Derived.Test.YtacmbiohjiogiaaW1
import Derived.Test.YtacmbiohjiogiaaW2
import Derived.Test.YtacmbiohjiogiaaW3
import Derived.Test.YtacmbiohjiogiaaW4
import Derived.Test.YtacmbiohjiogiaaX1
import Derived.Test.YtacmbiohjiogiaaX2
import Derived.Test.YtacmbiohjiogiaaX3
set_option linter.unusedVariables false
set_option linter.unusedSimpArgs false
set_option maxRecDepth 100000
namespace Go.Proofs.Ytacmbiohjiogiaa.K
open Go.RowKit

/-- Is the entity there, the same one, in all three versions? -/
def firstP (o x y : Option IR) : Prop := (o.isSome = true ∧ x.isSome = true ∧ y.isSome = true) ∧ ((o.getD default).e = (x.getD default).e ∧ (o.getD default).g = (x.getD default).g) ∧ ((o.getD default).e = (y.getD default).e ∧ (o.getD default).g = (y.getD default).g)
instance (o x y : Option IR) : Decidable (firstP o x y) := by unfold firstP; infer_instance
def restP (n : Int) (o x y : Option IR) : Option (Int × Int × List (Int × List Int)) × List KL :=
  if x.map IR.d = y.map IR.d then (x.map IR.d, []) else if x.map IR.d = o.map IR.d then (y.map IR.d, []) else if y.map IR.d = o.map IR.d then (x.map IR.d, []) else (x.map IR.d, [KL.mk 0 n 0 0])
/-- One entity merged, if it stays, and the clashes. -/
def slotP (K : Nat) (n : Int) (o x y : Option IR) : Option (Int × Int × List (Int × List Int)) × List KL :=
  if firstP o x y then (some ((x.getD default).e, (x.getD default).g, compsOut (x.getD default).e (o.getD default).cs (x.getD default).cs (y.getD default).cs K), compsCl (x.getD default).e (o.getD default).cs (x.getD default).cs (y.getD default).cs K)
  else restP n o x y
theorem slotP_not {K : Nat} {n : Int} {o x y : Option IR} (h : ¬ firstP o x y) : slotP K n o x y = restP n o x y := if_neg h

theorem SlotM_k0 (v0 : Int) (v1 : Int) (v2 : Int) (v3 : Int) (w : World) : (Instr.build 68 ([(0, (.int .i64 v0)), (1, (.int .i64 v1)), (2, (.int .i64 v2)), (3, (.int .i64 v3))] : List (Nat × Value)).toArray).run Try.prog w = .ok (.agg #[.int .i64 v0, .int .i64 v1, .int .i64 v2, .int .i64 v3]) w := by kernel_rfl
theorem SlotM_k1 (v0x0 : Int) (v0x1 : Int) (v0x2 : Int) (v0x3 : Int) (w : World) : (Instr.buildSlice 50 1 ([(0, (.agg #[(.int .i64 v0x0), (.int .i64 v0x1), (.int .i64 v0x2), (.int .i64 v0x3)]))] : List (Nat × Value)).toArray).run Try.prog w = .ok (.slice (some ⟨w.heap.size, 0, none⟩) 1 1) { w with heap := w.heap.push (.cells ([.int .i64 v0x0, .int .i64 v0x1, .int .i64 v0x2, .int .i64 v0x3] : List Value).toArray 68 (0, 0)) } := by kernel_rfl
theorem SlotM_c {V V0 : Mem} (hm0 : MSub V0 V) (mb : Nat) (cA : Option Addr) (cc : Nat) (cE : Grp) (kl : List KL) (hcl : OS cA kl.length cc 68 4 ((kl).flatMap encKL) cE) (n : Int) (K : Nat) (wo wx wy : WR) (hwo : WOK V0 wo) (hwx : WOK V0 wx) (hwy : WOK V0 wy) (hsl : ∀ a b c, findI wo.its n = some a → findI wx.its n = some b → findI wy.its n = some c → sameLen a.cs b.cs c.cs) (hK : K ≤ 100) (hb : kl.length ≤ 900000) : CallS Try.prog 96 [.pointer (some ⟨mb, 0, none⟩), .int .i64 n, .int .i64 K, .agg #[.slice wo.kA wo.kn wo.kc, .slice wo.gA wo.gn wo.gc, .slice wo.iA wo.iN wo.iC], .agg #[.slice wx.kA wx.kn wx.kc, .slice wx.gA wx.gn wx.gc, .slice wx.iA wx.iN wx.iC], .agg #[.slice wy.kA wy.kn wy.kc, .slice wy.gA wy.gn wy.gc, .slice wy.iA wy.iN wy.iC]].toArray V [[(mb, .cells [.slice cA kl.length cc].toArray 184 (0, 0))], cE] (fun r L' => ∃ (i' : IR) (ok : Bool) (kl' : List KL) (A' : Option Addr) (C' : Nat) (E' P : Grp), r = .tuple #[.agg #[.int .i64 i'.e, .int .i64 i'.g, .slice i'.A i'.n i'.c], .bool ok] ∧ IOK (orM V0 (inG P)) i' ∧ (if ok then some i'.d else none) = (slotP K n (findI wo.its n) (findI wx.its n) (findI wy.its n)).1 ∧ kl' = kl ++ (slotP K n (findI wo.its n) (findI wx.its n) (findI wy.its n)).2 ∧ OS A' kl'.length C' 68 4 ((kl').flatMap encKL) E' ∧ L' = [[(mb, .cells [.slice A' kl'.length C'].toArray 184 (0, 0))], E', P]) := by
  refine callS Try.func96 rfl rfl (fun w0 => ?_)
  refine s_seq ?_
  refine s_region ?_
  refine o_box (v := (.agg #[(.slice _ _ _), (.slice _ _ _), (.slice _ _ _)])) rfl rfl rfl (fun b1 => ?_)
  refine o_box (v := (.agg #[(.slice _ _ _), (.slice _ _ _), (.slice _ _ _)])) rfl rfl rfl (fun b2 => ?_)
  refine o_box (v := (.agg #[(.slice _ _ _), (.slice _ _ _), (.slice _ _ _)])) rfl rfl rfl (fun b3 => ?_)
  refine o_alloc rfl Try.zeroValue136 rfl (fun b4 => ?_)
  refine o_val rfl rfl rfl (y_assign (v := (.bool _)) rfl) ?_
  refine o_nil ?_
  refine s_seq ?_
  refine s_region ?_
  refine o_newgroup ?_
  refine o_val rfl rfl rfl (y_loads (cs := [_, _, _]) Try.isAgg47 Try.sizeOf47 rfl rfl rfl (cels_own 2 rfl rfl)) ?_
  refine o_val rfl rfl rfl (y_move (v := (.int _ _)) rfl) ?_
  refine o_fn 0 (d := 23) rfl Try.call153 (ItemM_c wo (WOK.sub hwo (hm0.trans MSub.ext)) n) rfl ?_
  rintro _ _ ⟨rfl, rfl⟩
  refine o_val rfl rfl rfl (y_move (v := (.tuple #[(.agg #[(.int _ _), (.int _ _), (.slice _ _ _)]), (.bool _)])) rfl) ?_
  refine o_val rfl rfl rfl (y_extract (v := (.agg #[(.int _ _), (.int _ _), (.slice _ _ _)])) rfl rfl) ?_
  refine o_val rfl rfl rfl (y_extract (v := (.bool _)) rfl rfl) ?_
  refine o_alloc rfl Try.zeroValue136 rfl (fun b5 => ?_)
  refine o_stores (vs := [(.int _ _), (.int _ _), (.slice _ _ _)]) 7 rfl Try.sizeOf136 rfl rfl rfl (by simp [Value.oneCell']) (by simp) ?_
  refine o_val rfl rfl rfl (y_assign (v := (.bool _)) rfl) ?_
  refine o_nil ?_
  refine s_forget [(0, (.pointer _)), (1, (.int _ _)), (2, (.int _ _)), (10, (.pointer _)), (11, (.pointer _)), (12, (.pointer _)), (13, (.bool _)), (14, (.pointer _)), (15, (.bool _))] ⟨rfl, rfl, rfl, rfl, rfl, rfl, rfl, rfl, rfl, trivial⟩ (fun _f => ?_)
  refine s_seq ?_
  refine s_region ?_
  refine o_val rfl rfl rfl (y_loads (cs := [_, _, _]) Try.isAgg47 Try.sizeOf47 rfl rfl rfl (cels_own 3 rfl rfl)) ?_
  refine o_val rfl rfl rfl (y_move (v := (.int _ _)) rfl) ?_
  refine o_fn 0 (d := 29) rfl Try.call153 (ItemM_c wx (WOK.sub hwx (hm0.trans MSub.ext)) n) rfl ?_
  rintro _ _ ⟨rfl, rfl⟩
  refine o_val rfl rfl rfl (y_move (v := (.tuple #[(.agg #[(.int _ _), (.int _ _), (.slice _ _ _)]), (.bool _)])) rfl) ?_
  refine o_val rfl rfl rfl (y_extract (v := (.agg #[(.int _ _), (.int _ _), (.slice _ _ _)])) rfl rfl) ?_
  refine o_val rfl rfl rfl (y_extract (v := (.bool _)) rfl rfl) ?_
  refine o_alloc rfl Try.zeroValue136 rfl (fun b6 => ?_)
  refine o_stores (vs := [(.int _ _), (.int _ _), (.slice _ _ _)]) 8 rfl Try.sizeOf136 rfl rfl rfl (by simp [Value.oneCell']) (by simp) ?_
  refine o_val rfl rfl rfl (y_assign (v := (.bool _)) rfl) ?_
  refine o_nil ?_
  refine s_norm [[(_, .cells [(.slice _ _ _)].toArray 184 (0, 0))], _, [(_, .cells [(.slice _ _ _), (.slice _ _ _), (.slice _ _ _)].toArray 47 (0, 0))], [(_, .cells [(.slice _ _ _), (.slice _ _ _), (.slice _ _ _)].toArray 47 (0, 0))], [(_, .cells [(.slice _ _ _), (.slice _ _ _), (.slice _ _ _)].toArray 47 (0, 0))], [(_, .cells [(.int _ _), (.int _ _), (.slice _ _ _)].toArray 136 (0, 0))], _, [(_, .cells [(.int _ _), (.int _ _), (.slice _ _ _)].toArray 136 (0, 0))], [(_, .cells [(.int _ _), (.int _ _), (.slice _ _ _)].toArray 136 (0, 0))]] rfl ?_
  refine s_seq ?_
  refine s_region ?_
  refine o_val rfl rfl rfl (y_loads (cs := [_, _, _]) Try.isAgg47 Try.sizeOf47 rfl rfl rfl (cels_own 4 rfl rfl)) ?_
  refine o_val rfl rfl rfl (y_move (v := (.int _ _)) rfl) ?_
  refine o_fn 0 (d := 35) rfl Try.call153 (ItemM_c wy (WOK.sub hwy (hm0.trans MSub.ext)) n) rfl ?_
  rintro _ _ ⟨rfl, rfl⟩
  refine o_val rfl rfl rfl (y_move (v := (.tuple #[(.agg #[(.int _ _), (.int _ _), (.slice _ _ _)]), (.bool _)])) rfl) ?_
  refine o_val rfl rfl rfl (y_extract (v := (.agg #[(.int _ _), (.int _ _), (.slice _ _ _)])) rfl rfl) ?_
  refine o_val rfl rfl rfl (y_extract (v := (.bool _)) rfl rfl) ?_
  refine o_alloc rfl Try.zeroValue136 rfl (fun b7 => ?_)
  refine o_stores (vs := [(.int _ _), (.int _ _), (.slice _ _ _)]) 9 rfl Try.sizeOf136 rfl rfl rfl (by simp [Value.oneCell']) (by simp) ?_
  refine o_val rfl rfl rfl (y_assign (v := (.bool _)) rfl) ?_
  refine o_nil ?_
  refine s_forget [(0, (.pointer _)), (1, (.int _ _)), (2, (.int _ _)), (12, (.pointer _)), (13, (.bool _)), (14, (.pointer _)), (15, (.bool _)), (16, (.pointer _)), (17, (.bool _)), (18, (.pointer _)), (19, (.bool _))] ⟨rfl, rfl, rfl, rfl, rfl, rfl, rfl, rfl, rfl, rfl, rfl, trivial⟩ (fun _f => ?_)
  refine s_seq ?_
  refine s_block ?_
  refine s_seq ?_
  refine s_region ?_
  have hO := findI_ok hwo.2.2.2.2.2.2 n
  have hX := findI_ok hwx.2.2.2.2.2.2 n
  have hY := findI_ok hwy.2.2.2.2.2.2 n
  rcases hfo : findI wo.its n with _ | co <;> rcases hfx : findI wx.its n with _ | cx <;> rcases hfy : findI wy.its n with _ | cy <;> rw [hfo] at hO <;> rw [hfx] at hX <;> rw [hfy] at hY
  · refine o_val rfl rfl rfl (y_move (v := (.bool _)) rfl) ?_
    refine o_val rfl rfl rfl (y_move (v := (.bool _)) rfl) ?_
    refine o_guard_no rfl rfl rfl rfl rfl ?_
    refine o_val rfl rfl rfl (y_pick_f (v := (.bool _)) rfl rfl) ?_
    refine o_val rfl rfl rfl (y_move (v := (.bool _)) rfl) ?_
    refine o_guard_no rfl rfl rfl rfl rfl ?_
    refine o_val rfl rfl rfl (y_pick_f (v := (.bool _)) rfl rfl) ?_
    refine o_val rfl rfl rfl (y_move (v := (.bool _)) rfl) ?_
    refine o_guard_no rfl rfl rfl rfl rfl ?_
    refine o_guard_no rfl rfl rfl rfl rfl ?_
    refine o_guard_no rfl rfl rfl rfl rfl ?_
    refine o_guard_no rfl rfl rfl rfl rfl ?_
    refine o_guard_no rfl rfl rfl rfl rfl ?_
    refine o_val rfl rfl rfl (y_pick_f (v := (.bool _)) rfl rfl) ?_
    refine o_val rfl rfl rfl (y_move (v := (.bool _)) rfl) ?_
    refine o_guard_no rfl rfl rfl rfl rfl ?_
    refine o_guard_no rfl rfl rfl rfl rfl ?_
    refine o_guard_no rfl rfl rfl rfl rfl ?_
    refine o_guard_no rfl rfl rfl rfl rfl ?_
    refine o_guard_no rfl rfl rfl rfl rfl ?_
    refine o_val rfl rfl rfl (y_pick_f (v := (.bool _)) rfl rfl) ?_
    refine o_val rfl rfl rfl (y_assign (v := (.bool _)) rfl) ?_
    refine o_nil ?_
    refine s_forget [(0, (.pointer _)), (1, (.int _ _)), (2, (.int _ _)), (12, (.pointer _)), (13, (.bool _)), (14, (.pointer _)), (15, (.bool _)), (16, (.pointer _)), (17, (.bool _)), (18, (.pointer _)), (19, (.bool _)), (38, (.bool _))] ⟨rfl, rfl, rfl, rfl, rfl, rfl, rfl, rfl, rfl, rfl, rfl, rfl, trivial⟩ (fun _f => ?_)
    refine s_else rfl ?_
    refine s_seq ?_
    refine s_region ?_
    refine o_val rfl rfl rfl (y_move (v := (.bool _)) rfl) ?_
    refine o_val rfl rfl rfl (y_move (v := (.bool _)) rfl) ?_
    refine o_val rfl rfl rfl (y_eql_bool Try.underlying4 rfl rfl) ?_
    refine o_val rfl rfl rfl (y_move (v := (.bool _)) rfl) ?_
    refine o_guard_yes rfl rfl ?_
    refine o_val rfl rfl rfl (y_loads (cs := [_, _, _]) Try.isAgg136 Try.sizeOf136 rfl rfl rfl (cels_own 8 rfl rfl)) ?_
    refine o_guard_yes rfl rfl ?_
    refine o_val rfl rfl rfl (y_loads (cs := [_, _, _]) Try.isAgg136 Try.sizeOf136 rfl rfl rfl (cels_own 9 rfl rfl)) ?_
    refine o_guard_yes rfl rfl ?_
    refine o_fn 0 (d := 73) rfl Try.call155 (SameM_c _ _ (IOK.sub hX (hm0.trans MSub.ext)) (IOK.sub hY (hm0.trans MSub.ext))) rfl ?_
    rintro _ _ ⟨rfl, rfl⟩
    refine o_val rfl rfl rfl (y_pick_t (v := (.bool _)) rfl rfl) ?_
    refine o_val rfl rfl rfl (y_assign (v := (.bool _)) rfl) ?_
    refine o_nil ?_
    refine s_if rfl (fun h8 => ?_) (fun h9 => ?_)
    · have e1 := h8
      refine s_seq ?_
      refine s_region ?_
      refine o_val rfl rfl rfl (y_loads (cs := [_, _, _]) Try.isAgg136 Try.sizeOf136 rfl rfl rfl (cels_own 8 rfl rfl)) ?_
      refine o_val rfl rfl rfl (y_move (v := (.bool _)) rfl) ?_
      refine o_stores (vs := [(.int _ _), (.int _ _), (.slice _ _ _)]) 5 rfl Try.sizeOf136 rfl rfl rfl (by simp [Value.oneCell']) (by simp) ?_
      refine o_val rfl rfl rfl (y_assign (v := (.bool _)) rfl) ?_
      refine o_nil ?_
      refine s_norm [[(_, .cells [(.slice _ _ _)].toArray 184 (0, 0))], _, [(_, .cells [(.slice _ _ _), (.slice _ _ _), (.slice _ _ _)].toArray 47 (0, 0))], [(_, .cells [(.slice _ _ _), (.slice _ _ _), (.slice _ _ _)].toArray 47 (0, 0))], [(_, .cells [(.slice _ _ _), (.slice _ _ _), (.slice _ _ _)].toArray 47 (0, 0))], [(_, .cells [(.int _ _), (.int _ _), (.slice _ _ _)].toArray 136 (0, 0))], _, [(_, .cells [(.int _ _), (.int _ _), (.slice _ _ _)].toArray 136 (0, 0))], [(_, .cells [(.int _ _), (.int _ _), (.slice _ _ _)].toArray 136 (0, 0))], [(_, .cells [(.int _ _), (.int _ _), (.slice _ _ _)].toArray 136 (0, 0))]] rfl ?_
      refine s_ret ?_
      have hpk : slotP K n (findI wo.its n) (findI wx.its n) (findI wy.its n) = (none, []) := by rw [hfo, hfx, hfy, slotP_not (fun hh => by have := hh.1; simp at this)]; unfold restP; first | (simp [e1]; done) | exact absurd rfl e1 | (simp only [Option.getD_some, Option.getD_none] at e1; simp [e1]; done)
      rw [hfo, hfx, hfy] at hpk
      exact ⟨_, [_, cE, []], resv2 rfl (RV.cells (cs := [_, _, _]) rfl Try.isAgg136 Try.sizeOf136 rfl rfl (cels_own 5 rfl rfl)) (RV.tmp rfl), ⟨(default : IR), false, kl, cA, cc, cE, [], rfl, IOK.sub hX orM_left, (by rw [hpk]; rfl), (by rw [hpk]; exact (List.append_nil _).symm), hcl, rfl⟩, sub_picks [0, 0, 4] rfl⟩
    · have e1 := h9
      refine s_seq ?_
      refine s_region ?_
      refine o_val rfl rfl rfl (y_move (v := (.bool _)) rfl) ?_
      refine o_val rfl rfl rfl (y_move (v := (.bool _)) rfl) ?_
      refine o_val rfl rfl rfl (y_eql_bool Try.underlying4 rfl rfl) ?_
      refine o_val rfl rfl rfl (y_move (v := (.bool _)) rfl) ?_
      refine o_guard_yes rfl rfl ?_
      refine o_val rfl rfl rfl (y_loads (cs := [_, _, _]) Try.isAgg136 Try.sizeOf136 rfl rfl rfl (cels_own 8 rfl rfl)) ?_
      refine o_guard_yes rfl rfl ?_
      refine o_val rfl rfl rfl (y_loads (cs := [_, _, _]) Try.isAgg136 Try.sizeOf136 rfl rfl rfl (cels_own 7 rfl rfl)) ?_
      refine o_guard_yes rfl rfl ?_
      refine o_fn 0 (d := 84) rfl Try.call155 (SameM_c _ _ (IOK.sub hX (hm0.trans MSub.ext)) (IOK.sub hO (hm0.trans MSub.ext))) rfl ?_
      rintro _ _ ⟨rfl, rfl⟩
      refine o_val rfl rfl rfl (y_pick_t (v := (.bool _)) rfl rfl) ?_
      refine o_val rfl rfl rfl (y_assign (v := (.bool _)) rfl) ?_
      refine o_nil ?_
      refine s_forget [(0, (.pointer _)), (1, (.int _ _)), (12, (.pointer _)), (13, (.bool _)), (14, (.pointer _)), (15, (.bool _)), (16, (.pointer _)), (17, (.bool _)), (18, (.pointer _)), (19, (.bool _)), (77, (.bool _))] ⟨rfl, rfl, rfl, rfl, rfl, rfl, rfl, rfl, rfl, rfl, rfl, trivial⟩ (fun _f => ?_)
      refine s_if rfl (fun h10 => ?_) (fun h11 => ?_)
      · have e2 := h10
        refine s_seq ?_
        refine s_region ?_
        refine o_val rfl rfl rfl (y_loads (cs := [_, _, _]) Try.isAgg136 Try.sizeOf136 rfl rfl rfl (cels_own 9 rfl rfl)) ?_
        refine o_val rfl rfl rfl (y_move (v := (.bool _)) rfl) ?_
        refine o_stores (vs := [(.int _ _), (.int _ _), (.slice _ _ _)]) 5 rfl Try.sizeOf136 rfl rfl rfl (by simp [Value.oneCell']) (by simp) ?_
        refine o_val rfl rfl rfl (y_assign (v := (.bool _)) rfl) ?_
        refine o_nil ?_
        refine s_norm [[(_, .cells [(.slice _ _ _)].toArray 184 (0, 0))], _, [(_, .cells [(.slice _ _ _), (.slice _ _ _), (.slice _ _ _)].toArray 47 (0, 0))], [(_, .cells [(.slice _ _ _), (.slice _ _ _), (.slice _ _ _)].toArray 47 (0, 0))], [(_, .cells [(.slice _ _ _), (.slice _ _ _), (.slice _ _ _)].toArray 47 (0, 0))], [(_, .cells [(.int _ _), (.int _ _), (.slice _ _ _)].toArray 136 (0, 0))], _, [(_, .cells [(.int _ _), (.int _ _), (.slice _ _ _)].toArray 136 (0, 0))], [(_, .cells [(.int _ _), (.int _ _), (.slice _ _ _)].toArray 136 (0, 0))], [(_, .cells [(.int _ _), (.int _ _), (.slice _ _ _)].toArray 136 (0, 0))]] rfl ?_
        refine s_ret ?_
        have hpk : slotP K n (findI wo.its n) (findI wx.its n) (findI wy.its n) = (none, []) := by rw [hfo, hfx, hfy, slotP_not (fun hh => by have := hh.1; simp at this)]; unfold restP; first | (simp [e1, e2]; done) | exact absurd rfl e1 | exact absurd rfl e2 | (simp only [Option.getD_some, Option.getD_none] at e1 e2; simp [e1, e2]; done)
        rw [hfo, hfx, hfy] at hpk
        exact ⟨_, [_, cE, []], resv2 rfl (RV.cells (cs := [_, _, _]) rfl Try.isAgg136 Try.sizeOf136 rfl rfl (cels_own 5 rfl rfl)) (RV.tmp rfl), ⟨(default : IR), false, kl, cA, cc, cE, [], rfl, IOK.sub hY orM_left, (by rw [hpk]; rfl), (by rw [hpk]; exact (List.append_nil _).symm), hcl, rfl⟩, sub_picks [0, 0, 4] rfl⟩
      · have e2 := h11
        refine s_seq ?_
        refine s_region ?_
        refine o_val rfl rfl rfl (y_move (v := (.bool _)) rfl) ?_
        refine o_val rfl rfl rfl (y_move (v := (.bool _)) rfl) ?_
        refine o_val rfl rfl rfl (y_eql_bool Try.underlying4 rfl rfl) ?_
        refine o_val rfl rfl rfl (y_move (v := (.bool _)) rfl) ?_
        refine o_guard_yes rfl rfl ?_
        refine o_val rfl rfl rfl (y_loads (cs := [_, _, _]) Try.isAgg136 Try.sizeOf136 rfl rfl rfl (cels_own 9 rfl rfl)) ?_
        refine o_guard_yes rfl rfl ?_
        refine o_val rfl rfl rfl (y_loads (cs := [_, _, _]) Try.isAgg136 Try.sizeOf136 rfl rfl rfl (cels_own 7 rfl rfl)) ?_
        refine o_guard_yes rfl rfl ?_
        refine o_fn 0 (d := 95) rfl Try.call155 (SameM_c _ _ (IOK.sub hY (hm0.trans MSub.ext)) (IOK.sub hO (hm0.trans MSub.ext))) rfl ?_
        rintro _ _ ⟨rfl, rfl⟩
        refine o_val rfl rfl rfl (y_pick_t (v := (.bool _)) rfl rfl) ?_
        refine o_val rfl rfl rfl (y_assign (v := (.bool _)) rfl) ?_
        refine o_nil ?_
        refine s_if rfl (fun h12 => ?_) (fun h13 => ?_)
        · have e3 := h12
          refine s_seq ?_
          refine s_region ?_
          refine o_val rfl rfl rfl (y_loads (cs := [_, _, _]) Try.isAgg136 Try.sizeOf136 rfl rfl rfl (cels_own 8 rfl rfl)) ?_
          refine o_val rfl rfl rfl (y_move (v := (.bool _)) rfl) ?_
          refine o_stores (vs := [(.int _ _), (.int _ _), (.slice _ _ _)]) 5 rfl Try.sizeOf136 rfl rfl rfl (by simp [Value.oneCell']) (by simp) ?_
          refine o_val rfl rfl rfl (y_assign (v := (.bool _)) rfl) ?_
          refine o_nil ?_
          refine s_norm [[(_, .cells [(.slice _ _ _)].toArray 184 (0, 0))], _, [(_, .cells [(.slice _ _ _), (.slice _ _ _), (.slice _ _ _)].toArray 47 (0, 0))], [(_, .cells [(.slice _ _ _), (.slice _ _ _), (.slice _ _ _)].toArray 47 (0, 0))], [(_, .cells [(.slice _ _ _), (.slice _ _ _), (.slice _ _ _)].toArray 47 (0, 0))], [(_, .cells [(.int _ _), (.int _ _), (.slice _ _ _)].toArray 136 (0, 0))], _, [(_, .cells [(.int _ _), (.int _ _), (.slice _ _ _)].toArray 136 (0, 0))], [(_, .cells [(.int _ _), (.int _ _), (.slice _ _ _)].toArray 136 (0, 0))], [(_, .cells [(.int _ _), (.int _ _), (.slice _ _ _)].toArray 136 (0, 0))]] rfl ?_
          refine s_ret ?_
          have hpk : slotP K n (findI wo.its n) (findI wx.its n) (findI wy.its n) = (none, []) := by rw [hfo, hfx, hfy, slotP_not (fun hh => by have := hh.1; simp at this)]; unfold restP; first | (simp [e1, e2, e3]; done) | exact absurd rfl e1 | exact absurd rfl e2 | exact absurd rfl e3 | (simp only [Option.getD_some, Option.getD_none] at e1 e2 e3; simp [e1, e2, e3]; done)
          rw [hfo, hfx, hfy] at hpk
          exact ⟨_, [_, cE, []], resv2 rfl (RV.cells (cs := [_, _, _]) rfl Try.isAgg136 Try.sizeOf136 rfl rfl (cels_own 5 rfl rfl)) (RV.tmp rfl), ⟨(default : IR), false, kl, cA, cc, cE, [], rfl, IOK.sub hX orM_left, (by rw [hpk]; rfl), (by rw [hpk]; exact (List.append_nil _).symm), hcl, rfl⟩, sub_picks [0, 0, 4] rfl⟩
        · have e3 := h13
          refine s_skip ?_
          refine s_seq ?_
          refine s_region ?_
          refine o_val rfl rfl rfl (y_move (v := (.pointer _)) rfl) ?_
          refine o_val rfl rfl rfl (y_move (v := (.pointer _)) rfl) ?_
          refine o_val rfl rfl rfl (y_nilCheck rfl) ?_
          refine o_val rfl rfl rfl (y_field0 Try.runUnderlying184 rfl Try.sizeOf50 rfl rfl) ?_
          refine o_val rfl rfl rfl (y_load Try.isAgg50 rfl (cel_own 0 rfl rfl)) ?_
          refine o_val rfl rfl rfl (y_move (v := (.int _ _)) rfl) ?_
          refine o_val rfl rfl rfl (y_build (vs := [(0, .int _ _), (1, .int _ _), (2, .int _ _), (3, .int _ _)]) rfl (SlotM_k0 _ _ _ _)) ?_
          refine o_lit (vs := [(0, .agg #[.int _ _, .int _ _, .int _ _, .int _ _])]) rfl rfl (SlotM_k1 _ _ _ _) (fun b14 => ?_)
          refine o_append (sz := 4) (bytes := 32) (news := [(.int _ _), (.int _ _), (.int _ _), (.int _ _)]) 1 rfl Try.underlying50 Try.type68 rfl rfl rfl rfl rfl hcl rfl rfl (Src.slice Try.underlying50 (cels_own 10 rfl rfl) rfl (by simp [Value.oneCell']) (by simp)) (by omega) (fun A15 c16 E17 ho18 hn19 => ?_)
          have ho20 : OS A15 (kl.length + 1) c16 68 4 ((kl ++ [KL.mk 0 n 0 0]).flatMap encKL) E17 := os_snoc ho18 rfl
          clear ho18
          refine o_val rfl rfl rfl (y_nilCheck rfl) ?_
          refine o_val rfl rfl rfl (y_field0 Try.runUnderlying184 rfl Try.sizeOf50 rfl rfl) ?_
          refine o_store (v := (.slice _ _ _)) 0 rfl Try.sizeOf50 rfl rfl rfl rfl ?_
          refine o_nil ?_
          refine s_norm [[(_, .cells [(.slice _ _ _)].toArray 184 (0, 0))], _, [(_, .cells [(.slice _ _ _), (.slice _ _ _), (.slice _ _ _)].toArray 47 (0, 0))], [(_, .cells [(.slice _ _ _), (.slice _ _ _), (.slice _ _ _)].toArray 47 (0, 0))], [(_, .cells [(.slice _ _ _), (.slice _ _ _), (.slice _ _ _)].toArray 47 (0, 0))], [(_, .cells [(.int _ _), (.int _ _), (.slice _ _ _)].toArray 136 (0, 0))], _, [(_, .cells [(.int _ _), (.int _ _), (.slice _ _ _)].toArray 136 (0, 0))], [(_, .cells [(.int _ _), (.int _ _), (.slice _ _ _)].toArray 136 (0, 0))], [(_, .cells [(.int _ _), (.int _ _), (.slice _ _ _)].toArray 136 (0, 0))], [(_, .cells [(.int _ _), (.int _ _), (.int _ _), (.int _ _)].toArray 68 (0, 0))]] rfl ?_
          refine s_forget [(12, (.pointer _)), (13, (.bool _)), (16, (.pointer _)), (17, (.bool _))] ⟨rfl, rfl, rfl, rfl, trivial⟩ (fun _f => ?_)
          refine s_seq ?_
          refine s_region ?_
          refine o_val rfl rfl rfl (y_loads (cs := [_, _, _]) Try.isAgg136 Try.sizeOf136 rfl rfl rfl (cels_own 8 rfl rfl)) ?_
          refine o_val rfl rfl rfl (y_move (v := (.bool _)) rfl) ?_
          refine o_stores (vs := [(.int _ _), (.int _ _), (.slice _ _ _)]) 5 rfl Try.sizeOf136 rfl rfl rfl (by simp [Value.oneCell']) (by simp) ?_
          refine o_val rfl rfl rfl (y_assign (v := (.bool _)) rfl) ?_
          refine o_nil ?_
          refine s_ret ?_
          have hpk : slotP K n (findI wo.its n) (findI wx.its n) (findI wy.its n) = (none, [KL.mk 0 n 0 0]) := by rw [hfo, hfx, hfy, slotP_not (fun hh => by have := hh.1; simp at this)]; unfold restP; first | (simp [e1, e2, e3]; done) | exact absurd rfl e1 | exact absurd rfl e2 | exact absurd rfl e3 | (simp only [Option.getD_some, Option.getD_none] at e1 e2 e3; simp [e1, e2, e3]; done)
          rw [hfo, hfx, hfy] at hpk
          exact ⟨_, [_, E17, []], resv2 rfl (RV.cells (cs := [_, _, _]) rfl Try.isAgg136 Try.sizeOf136 rfl rfl (cels_own 5 rfl rfl)) (RV.tmp rfl), ⟨(default : IR), false, kl ++ [KL.mk 0 n 0 0], A15, c16, E17, [], rfl, IOK.sub hX orM_left, (by rw [hpk]; rfl), (by rw [hpk]), (by rw [List.length_append]; exact ho20), rfl⟩, (by rw [List.length_append]; exact sub_picks [0, 0, 4] rfl)⟩
  · refine o_val rfl rfl rfl (y_move (v := (.bool _)) rfl) ?_
    refine o_val rfl rfl rfl (y_move (v := (.bool _)) rfl) ?_
    refine o_guard_no rfl rfl rfl rfl rfl ?_
    refine o_val rfl rfl rfl (y_pick_f (v := (.bool _)) rfl rfl) ?_
    refine o_val rfl rfl rfl (y_move (v := (.bool _)) rfl) ?_
    refine o_guard_no rfl rfl rfl rfl rfl ?_
    refine o_val rfl rfl rfl (y_pick_f (v := (.bool _)) rfl rfl) ?_
    refine o_val rfl rfl rfl (y_move (v := (.bool _)) rfl) ?_
    refine o_guard_no rfl rfl rfl rfl rfl ?_
    refine o_guard_no rfl rfl rfl rfl rfl ?_
    refine o_guard_no rfl rfl rfl rfl rfl ?_
    refine o_guard_no rfl rfl rfl rfl rfl ?_
    refine o_guard_no rfl rfl rfl rfl rfl ?_
    refine o_val rfl rfl rfl (y_pick_f (v := (.bool _)) rfl rfl) ?_
    refine o_val rfl rfl rfl (y_move (v := (.bool _)) rfl) ?_
    refine o_guard_no rfl rfl rfl rfl rfl ?_
    refine o_guard_no rfl rfl rfl rfl rfl ?_
    refine o_guard_no rfl rfl rfl rfl rfl ?_
    refine o_guard_no rfl rfl rfl rfl rfl ?_
    refine o_guard_no rfl rfl rfl rfl rfl ?_
    refine o_val rfl rfl rfl (y_pick_f (v := (.bool _)) rfl rfl) ?_
    refine o_val rfl rfl rfl (y_assign (v := (.bool _)) rfl) ?_
    refine o_nil ?_
    refine s_forget [(0, (.pointer _)), (1, (.int _ _)), (2, (.int _ _)), (12, (.pointer _)), (13, (.bool _)), (14, (.pointer _)), (15, (.bool _)), (16, (.pointer _)), (17, (.bool _)), (18, (.pointer _)), (19, (.bool _)), (38, (.bool _))] ⟨rfl, rfl, rfl, rfl, rfl, rfl, rfl, rfl, rfl, rfl, rfl, rfl, trivial⟩ (fun _f => ?_)
    refine s_else rfl ?_
    refine s_seq ?_
    refine s_region ?_
    refine o_val rfl rfl rfl (y_move (v := (.bool _)) rfl) ?_
    refine o_val rfl rfl rfl (y_move (v := (.bool _)) rfl) ?_
    refine o_val rfl rfl rfl (y_eql_bool Try.underlying4 rfl rfl) ?_
    refine o_val rfl rfl rfl (y_move (v := (.bool _)) rfl) ?_
    refine o_guard_no rfl rfl rfl rfl rfl ?_
    refine o_guard_no rfl rfl rfl rfl rfl ?_
    refine o_guard_no rfl rfl rfl rfl rfl ?_
    refine o_val rfl rfl rfl (y_pick_f (v := (.bool _)) rfl rfl) ?_
    refine o_val rfl rfl rfl (y_assign (v := (.bool _)) rfl) ?_
    refine o_nil ?_
    refine s_else rfl ?_
    refine s_seq ?_
    refine s_region ?_
    refine o_val rfl rfl rfl (y_move (v := (.bool _)) rfl) ?_
    refine o_val rfl rfl rfl (y_move (v := (.bool _)) rfl) ?_
    refine o_val rfl rfl rfl (y_eql_bool Try.underlying4 rfl rfl) ?_
    refine o_val rfl rfl rfl (y_move (v := (.bool _)) rfl) ?_
    refine o_guard_yes rfl rfl ?_
    refine o_val rfl rfl rfl (y_loads (cs := [_, _, _]) Try.isAgg136 Try.sizeOf136 rfl rfl rfl (cels_own 8 rfl rfl)) ?_
    refine o_guard_yes rfl rfl ?_
    refine o_val rfl rfl rfl (y_loads (cs := [_, _, _]) Try.isAgg136 Try.sizeOf136 rfl rfl rfl (cels_own 7 rfl rfl)) ?_
    refine o_guard_yes rfl rfl ?_
    refine o_fn 0 (d := 84) rfl Try.call155 (SameM_c _ _ (IOK.sub hX (hm0.trans MSub.ext)) (IOK.sub hO (hm0.trans MSub.ext))) rfl ?_
    rintro _ _ ⟨rfl, rfl⟩
    refine o_val rfl rfl rfl (y_pick_t (v := (.bool _)) rfl rfl) ?_
    refine o_val rfl rfl rfl (y_assign (v := (.bool _)) rfl) ?_
    refine o_nil ?_
    refine s_forget [(0, (.pointer _)), (1, (.int _ _)), (12, (.pointer _)), (13, (.bool _)), (14, (.pointer _)), (15, (.bool _)), (16, (.pointer _)), (17, (.bool _)), (18, (.pointer _)), (19, (.bool _)), (77, (.bool _))] ⟨rfl, rfl, rfl, rfl, rfl, rfl, rfl, rfl, rfl, rfl, rfl, trivial⟩ (fun _f => ?_)
    refine s_if rfl (fun h21 => ?_) (fun h22 => ?_)
    · have e2 := h21
      refine s_seq ?_
      refine s_region ?_
      refine o_val rfl rfl rfl (y_loads (cs := [_, _, _]) Try.isAgg136 Try.sizeOf136 rfl rfl rfl (cels_own 9 rfl rfl)) ?_
      refine o_val rfl rfl rfl (y_move (v := (.bool _)) rfl) ?_
      refine o_stores (vs := [(.int _ _), (.int _ _), (.slice _ _ _)]) 5 rfl Try.sizeOf136 rfl rfl rfl (by simp [Value.oneCell']) (by simp) ?_
      refine o_val rfl rfl rfl (y_assign (v := (.bool _)) rfl) ?_
      refine o_nil ?_
      refine s_norm [[(_, .cells [(.slice _ _ _)].toArray 184 (0, 0))], _, [(_, .cells [(.slice _ _ _), (.slice _ _ _), (.slice _ _ _)].toArray 47 (0, 0))], [(_, .cells [(.slice _ _ _), (.slice _ _ _), (.slice _ _ _)].toArray 47 (0, 0))], [(_, .cells [(.slice _ _ _), (.slice _ _ _), (.slice _ _ _)].toArray 47 (0, 0))], [(_, .cells [(.int _ _), (.int _ _), (.slice _ _ _)].toArray 136 (0, 0))], _, [(_, .cells [(.int _ _), (.int _ _), (.slice _ _ _)].toArray 136 (0, 0))], [(_, .cells [(.int _ _), (.int _ _), (.slice _ _ _)].toArray 136 (0, 0))], [(_, .cells [(.int _ _), (.int _ _), (.slice _ _ _)].toArray 136 (0, 0))]] rfl ?_
      refine s_ret ?_
      have hpk : slotP K n (findI wo.its n) (findI wx.its n) (findI wy.its n) = (some cy.d, []) := by rw [hfo, hfx, hfy, slotP_not (fun hh => by have := hh.1; simp at this)]; unfold restP; first | (simp [e2]; done) | exact absurd rfl e2 | (simp only [Option.getD_some, Option.getD_none] at e2; simp [e2]; done)
      rw [hfo, hfx, hfy] at hpk
      exact ⟨_, [_, cE, []], resv2 rfl (RV.cells (cs := [_, _, _]) rfl Try.isAgg136 Try.sizeOf136 rfl rfl (cels_own 5 rfl rfl)) (RV.tmp rfl), ⟨cy, true, kl, cA, cc, cE, [], rfl, IOK.sub hY orM_left, (by rw [hpk]; rfl), (by rw [hpk]; exact (List.append_nil _).symm), hcl, rfl⟩, sub_picks [0, 0, 4] rfl⟩
    · have e2 := h22
      refine s_seq ?_
      refine s_region ?_
      refine o_val rfl rfl rfl (y_move (v := (.bool _)) rfl) ?_
      refine o_val rfl rfl rfl (y_move (v := (.bool _)) rfl) ?_
      refine o_val rfl rfl rfl (y_eql_bool Try.underlying4 rfl rfl) ?_
      refine o_val rfl rfl rfl (y_move (v := (.bool _)) rfl) ?_
      refine o_guard_no rfl rfl rfl rfl rfl ?_
      refine o_guard_no rfl rfl rfl rfl rfl ?_
      refine o_guard_no rfl rfl rfl rfl rfl ?_
      refine o_val rfl rfl rfl (y_pick_f (v := (.bool _)) rfl rfl) ?_
      refine o_val rfl rfl rfl (y_assign (v := (.bool _)) rfl) ?_
      refine o_nil ?_
      refine s_else rfl ?_
      refine s_skip ?_
      refine s_seq ?_
      refine s_region ?_
      refine o_val rfl rfl rfl (y_move (v := (.pointer _)) rfl) ?_
      refine o_val rfl rfl rfl (y_move (v := (.pointer _)) rfl) ?_
      refine o_val rfl rfl rfl (y_nilCheck rfl) ?_
      refine o_val rfl rfl rfl (y_field0 Try.runUnderlying184 rfl Try.sizeOf50 rfl rfl) ?_
      refine o_val rfl rfl rfl (y_load Try.isAgg50 rfl (cel_own 0 rfl rfl)) ?_
      refine o_val rfl rfl rfl (y_move (v := (.int _ _)) rfl) ?_
      refine o_val rfl rfl rfl (y_build (vs := [(0, .int _ _), (1, .int _ _), (2, .int _ _), (3, .int _ _)]) rfl (SlotM_k0 _ _ _ _)) ?_
      refine o_lit (vs := [(0, .agg #[.int _ _, .int _ _, .int _ _, .int _ _])]) rfl rfl (SlotM_k1 _ _ _ _) (fun b23 => ?_)
      refine o_append (sz := 4) (bytes := 32) (news := [(.int _ _), (.int _ _), (.int _ _), (.int _ _)]) 1 rfl Try.underlying50 Try.type68 rfl rfl rfl rfl rfl hcl rfl rfl (Src.slice Try.underlying50 (cels_own 10 rfl rfl) rfl (by simp [Value.oneCell']) (by simp)) (by omega) (fun A24 c25 E26 ho27 hn28 => ?_)
      have ho29 : OS A24 (kl.length + 1) c25 68 4 ((kl ++ [KL.mk 0 n 0 0]).flatMap encKL) E26 := os_snoc ho27 rfl
      clear ho27
      refine o_val rfl rfl rfl (y_nilCheck rfl) ?_
      refine o_val rfl rfl rfl (y_field0 Try.runUnderlying184 rfl Try.sizeOf50 rfl rfl) ?_
      refine o_store (v := (.slice _ _ _)) 0 rfl Try.sizeOf50 rfl rfl rfl rfl ?_
      refine o_nil ?_
      refine s_norm [[(_, .cells [(.slice _ _ _)].toArray 184 (0, 0))], _, [(_, .cells [(.slice _ _ _), (.slice _ _ _), (.slice _ _ _)].toArray 47 (0, 0))], [(_, .cells [(.slice _ _ _), (.slice _ _ _), (.slice _ _ _)].toArray 47 (0, 0))], [(_, .cells [(.slice _ _ _), (.slice _ _ _), (.slice _ _ _)].toArray 47 (0, 0))], [(_, .cells [(.int _ _), (.int _ _), (.slice _ _ _)].toArray 136 (0, 0))], _, [(_, .cells [(.int _ _), (.int _ _), (.slice _ _ _)].toArray 136 (0, 0))], [(_, .cells [(.int _ _), (.int _ _), (.slice _ _ _)].toArray 136 (0, 0))], [(_, .cells [(.int _ _), (.int _ _), (.slice _ _ _)].toArray 136 (0, 0))], [(_, .cells [(.int _ _), (.int _ _), (.int _ _), (.int _ _)].toArray 68 (0, 0))]] rfl ?_
      refine s_forget [(12, (.pointer _)), (13, (.bool _)), (16, (.pointer _)), (17, (.bool _))] ⟨rfl, rfl, rfl, rfl, trivial⟩ (fun _f => ?_)
      refine s_seq ?_
      refine s_region ?_
      refine o_val rfl rfl rfl (y_loads (cs := [_, _, _]) Try.isAgg136 Try.sizeOf136 rfl rfl rfl (cels_own 8 rfl rfl)) ?_
      refine o_val rfl rfl rfl (y_move (v := (.bool _)) rfl) ?_
      refine o_stores (vs := [(.int _ _), (.int _ _), (.slice _ _ _)]) 5 rfl Try.sizeOf136 rfl rfl rfl (by simp [Value.oneCell']) (by simp) ?_
      refine o_val rfl rfl rfl (y_assign (v := (.bool _)) rfl) ?_
      refine o_nil ?_
      refine s_ret ?_
      have hpk : slotP K n (findI wo.its n) (findI wx.its n) (findI wy.its n) = (none, [KL.mk 0 n 0 0]) := by rw [hfo, hfx, hfy, slotP_not (fun hh => by have := hh.1; simp at this)]; unfold restP; first | (simp [e2]; done) | exact absurd rfl e2 | (simp only [Option.getD_some, Option.getD_none] at e2; simp [e2]; done)
      rw [hfo, hfx, hfy] at hpk
      exact ⟨_, [_, E26, []], resv2 rfl (RV.cells (cs := [_, _, _]) rfl Try.isAgg136 Try.sizeOf136 rfl rfl (cels_own 5 rfl rfl)) (RV.tmp rfl), ⟨(default : IR), false, kl ++ [KL.mk 0 n 0 0], A24, c25, E26, [], rfl, IOK.sub hX orM_left, (by rw [hpk]; rfl), (by rw [hpk]), (by rw [List.length_append]; exact ho29), rfl⟩, (by rw [List.length_append]; exact sub_picks [0, 0, 4] rfl)⟩
  · refine o_val rfl rfl rfl (y_move (v := (.bool _)) rfl) ?_
    refine o_val rfl rfl rfl (y_move (v := (.bool _)) rfl) ?_
    refine o_guard_no rfl rfl rfl rfl rfl ?_
    refine o_val rfl rfl rfl (y_pick_f (v := (.bool _)) rfl rfl) ?_
    refine o_val rfl rfl rfl (y_move (v := (.bool _)) rfl) ?_
    refine o_guard_no rfl rfl rfl rfl rfl ?_
    refine o_val rfl rfl rfl (y_pick_f (v := (.bool _)) rfl rfl) ?_
    refine o_val rfl rfl rfl (y_move (v := (.bool _)) rfl) ?_
    refine o_guard_no rfl rfl rfl rfl rfl ?_
    refine o_guard_no rfl rfl rfl rfl rfl ?_
    refine o_guard_no rfl rfl rfl rfl rfl ?_
    refine o_guard_no rfl rfl rfl rfl rfl ?_
    refine o_guard_no rfl rfl rfl rfl rfl ?_
    refine o_val rfl rfl rfl (y_pick_f (v := (.bool _)) rfl rfl) ?_
    refine o_val rfl rfl rfl (y_move (v := (.bool _)) rfl) ?_
    refine o_guard_no rfl rfl rfl rfl rfl ?_
    refine o_guard_no rfl rfl rfl rfl rfl ?_
    refine o_guard_no rfl rfl rfl rfl rfl ?_
    refine o_guard_no rfl rfl rfl rfl rfl ?_
    refine o_guard_no rfl rfl rfl rfl rfl ?_
    refine o_val rfl rfl rfl (y_pick_f (v := (.bool _)) rfl rfl) ?_
    refine o_val rfl rfl rfl (y_assign (v := (.bool _)) rfl) ?_
    refine o_nil ?_
    refine s_forget [(0, (.pointer _)), (1, (.int _ _)), (2, (.int _ _)), (12, (.pointer _)), (13, (.bool _)), (14, (.pointer _)), (15, (.bool _)), (16, (.pointer _)), (17, (.bool _)), (18, (.pointer _)), (19, (.bool _)), (38, (.bool _))] ⟨rfl, rfl, rfl, rfl, rfl, rfl, rfl, rfl, rfl, rfl, rfl, rfl, trivial⟩ (fun _f => ?_)
    refine s_else rfl ?_
    refine s_seq ?_
    refine s_region ?_
    refine o_val rfl rfl rfl (y_move (v := (.bool _)) rfl) ?_
    refine o_val rfl rfl rfl (y_move (v := (.bool _)) rfl) ?_
    refine o_val rfl rfl rfl (y_eql_bool Try.underlying4 rfl rfl) ?_
    refine o_val rfl rfl rfl (y_move (v := (.bool _)) rfl) ?_
    refine o_guard_no rfl rfl rfl rfl rfl ?_
    refine o_guard_no rfl rfl rfl rfl rfl ?_
    refine o_guard_no rfl rfl rfl rfl rfl ?_
    refine o_val rfl rfl rfl (y_pick_f (v := (.bool _)) rfl rfl) ?_
    refine o_val rfl rfl rfl (y_assign (v := (.bool _)) rfl) ?_
    refine o_nil ?_
    refine s_else rfl ?_
    refine s_seq ?_
    refine s_region ?_
    refine o_val rfl rfl rfl (y_move (v := (.bool _)) rfl) ?_
    refine o_val rfl rfl rfl (y_move (v := (.bool _)) rfl) ?_
    refine o_val rfl rfl rfl (y_eql_bool Try.underlying4 rfl rfl) ?_
    refine o_val rfl rfl rfl (y_move (v := (.bool _)) rfl) ?_
    refine o_guard_no rfl rfl rfl rfl rfl ?_
    refine o_guard_no rfl rfl rfl rfl rfl ?_
    refine o_guard_no rfl rfl rfl rfl rfl ?_
    refine o_val rfl rfl rfl (y_pick_f (v := (.bool _)) rfl rfl) ?_
    refine o_val rfl rfl rfl (y_assign (v := (.bool _)) rfl) ?_
    refine o_nil ?_
    refine s_forget [(0, (.pointer _)), (1, (.int _ _)), (12, (.pointer _)), (13, (.bool _)), (14, (.pointer _)), (15, (.bool _)), (16, (.pointer _)), (17, (.bool _)), (18, (.pointer _)), (19, (.bool _)), (77, (.bool _))] ⟨rfl, rfl, rfl, rfl, rfl, rfl, rfl, rfl, rfl, rfl, rfl, trivial⟩ (fun _f => ?_)
    refine s_else rfl ?_
    refine s_seq ?_
    refine s_region ?_
    refine o_val rfl rfl rfl (y_move (v := (.bool _)) rfl) ?_
    refine o_val rfl rfl rfl (y_move (v := (.bool _)) rfl) ?_
    refine o_val rfl rfl rfl (y_eql_bool Try.underlying4 rfl rfl) ?_
    refine o_val rfl rfl rfl (y_move (v := (.bool _)) rfl) ?_
    refine o_guard_yes rfl rfl ?_
    refine o_val rfl rfl rfl (y_loads (cs := [_, _, _]) Try.isAgg136 Try.sizeOf136 rfl rfl rfl (cels_own 9 rfl rfl)) ?_
    refine o_guard_yes rfl rfl ?_
    refine o_val rfl rfl rfl (y_loads (cs := [_, _, _]) Try.isAgg136 Try.sizeOf136 rfl rfl rfl (cels_own 7 rfl rfl)) ?_
    refine o_guard_yes rfl rfl ?_
    refine o_fn 0 (d := 95) rfl Try.call155 (SameM_c _ _ (IOK.sub hY (hm0.trans MSub.ext)) (IOK.sub hO (hm0.trans MSub.ext))) rfl ?_
    rintro _ _ ⟨rfl, rfl⟩
    refine o_val rfl rfl rfl (y_pick_t (v := (.bool _)) rfl rfl) ?_
    refine o_val rfl rfl rfl (y_assign (v := (.bool _)) rfl) ?_
    refine o_nil ?_
    refine s_if rfl (fun h30 => ?_) (fun h31 => ?_)
    · have e3 := h30
      refine s_seq ?_
      refine s_region ?_
      refine o_val rfl rfl rfl (y_loads (cs := [_, _, _]) Try.isAgg136 Try.sizeOf136 rfl rfl rfl (cels_own 8 rfl rfl)) ?_
      refine o_val rfl rfl rfl (y_move (v := (.bool _)) rfl) ?_
      refine o_stores (vs := [(.int _ _), (.int _ _), (.slice _ _ _)]) 5 rfl Try.sizeOf136 rfl rfl rfl (by simp [Value.oneCell']) (by simp) ?_
      refine o_val rfl rfl rfl (y_assign (v := (.bool _)) rfl) ?_
      refine o_nil ?_
      refine s_norm [[(_, .cells [(.slice _ _ _)].toArray 184 (0, 0))], _, [(_, .cells [(.slice _ _ _), (.slice _ _ _), (.slice _ _ _)].toArray 47 (0, 0))], [(_, .cells [(.slice _ _ _), (.slice _ _ _), (.slice _ _ _)].toArray 47 (0, 0))], [(_, .cells [(.slice _ _ _), (.slice _ _ _), (.slice _ _ _)].toArray 47 (0, 0))], [(_, .cells [(.int _ _), (.int _ _), (.slice _ _ _)].toArray 136 (0, 0))], _, [(_, .cells [(.int _ _), (.int _ _), (.slice _ _ _)].toArray 136 (0, 0))], [(_, .cells [(.int _ _), (.int _ _), (.slice _ _ _)].toArray 136 (0, 0))], [(_, .cells [(.int _ _), (.int _ _), (.slice _ _ _)].toArray 136 (0, 0))]] rfl ?_
      refine s_ret ?_
      have hpk : slotP K n (findI wo.its n) (findI wx.its n) (findI wy.its n) = (some cx.d, []) := by rw [hfo, hfx, hfy, slotP_not (fun hh => by have := hh.1; simp at this)]; unfold restP; first | (simp [e3]; done) | exact absurd rfl e3 | (simp only [Option.getD_some, Option.getD_none] at e3; simp [e3]; done)
      rw [hfo, hfx, hfy] at hpk
      exact ⟨_, [_, cE, []], resv2 rfl (RV.cells (cs := [_, _, _]) rfl Try.isAgg136 Try.sizeOf136 rfl rfl (cels_own 5 rfl rfl)) (RV.tmp rfl), ⟨cx, true, kl, cA, cc, cE, [], rfl, IOK.sub hX orM_left, (by rw [hpk]; rfl), (by rw [hpk]; exact (List.append_nil _).symm), hcl, rfl⟩, sub_picks [0, 0, 4] rfl⟩
    · have e3 := h31
      refine s_skip ?_
      refine s_seq ?_
      refine s_region ?_
      refine o_val rfl rfl rfl (y_move (v := (.pointer _)) rfl) ?_
      refine o_val rfl rfl rfl (y_move (v := (.pointer _)) rfl) ?_
      refine o_val rfl rfl rfl (y_nilCheck rfl) ?_
      refine o_val rfl rfl rfl (y_field0 Try.runUnderlying184 rfl Try.sizeOf50 rfl rfl) ?_
      refine o_val rfl rfl rfl (y_load Try.isAgg50 rfl (cel_own 0 rfl rfl)) ?_
      refine o_val rfl rfl rfl (y_move (v := (.int _ _)) rfl) ?_
      refine o_val rfl rfl rfl (y_build (vs := [(0, .int _ _), (1, .int _ _), (2, .int _ _), (3, .int _ _)]) rfl (SlotM_k0 _ _ _ _)) ?_
      refine o_lit (vs := [(0, .agg #[.int _ _, .int _ _, .int _ _, .int _ _])]) rfl rfl (SlotM_k1 _ _ _ _) (fun b32 => ?_)
      refine o_append (sz := 4) (bytes := 32) (news := [(.int _ _), (.int _ _), (.int _ _), (.int _ _)]) 1 rfl Try.underlying50 Try.type68 rfl rfl rfl rfl rfl hcl rfl rfl (Src.slice Try.underlying50 (cels_own 10 rfl rfl) rfl (by simp [Value.oneCell']) (by simp)) (by omega) (fun A33 c34 E35 ho36 hn37 => ?_)
      have ho38 : OS A33 (kl.length + 1) c34 68 4 ((kl ++ [KL.mk 0 n 0 0]).flatMap encKL) E35 := os_snoc ho36 rfl
      clear ho36
      refine o_val rfl rfl rfl (y_nilCheck rfl) ?_
      refine o_val rfl rfl rfl (y_field0 Try.runUnderlying184 rfl Try.sizeOf50 rfl rfl) ?_
      refine o_store (v := (.slice _ _ _)) 0 rfl Try.sizeOf50 rfl rfl rfl rfl ?_
      refine o_nil ?_
      refine s_norm [[(_, .cells [(.slice _ _ _)].toArray 184 (0, 0))], _, [(_, .cells [(.slice _ _ _), (.slice _ _ _), (.slice _ _ _)].toArray 47 (0, 0))], [(_, .cells [(.slice _ _ _), (.slice _ _ _), (.slice _ _ _)].toArray 47 (0, 0))], [(_, .cells [(.slice _ _ _), (.slice _ _ _), (.slice _ _ _)].toArray 47 (0, 0))], [(_, .cells [(.int _ _), (.int _ _), (.slice _ _ _)].toArray 136 (0, 0))], _, [(_, .cells [(.int _ _), (.int _ _), (.slice _ _ _)].toArray 136 (0, 0))], [(_, .cells [(.int _ _), (.int _ _), (.slice _ _ _)].toArray 136 (0, 0))], [(_, .cells [(.int _ _), (.int _ _), (.slice _ _ _)].toArray 136 (0, 0))], [(_, .cells [(.int _ _), (.int _ _), (.int _ _), (.int _ _)].toArray 68 (0, 0))]] rfl ?_
      refine s_forget [(12, (.pointer _)), (13, (.bool _)), (16, (.pointer _)), (17, (.bool _))] ⟨rfl, rfl, rfl, rfl, trivial⟩ (fun _f => ?_)
      refine s_seq ?_
      refine s_region ?_
      refine o_val rfl rfl rfl (y_loads (cs := [_, _, _]) Try.isAgg136 Try.sizeOf136 rfl rfl rfl (cels_own 8 rfl rfl)) ?_
      refine o_val rfl rfl rfl (y_move (v := (.bool _)) rfl) ?_
      refine o_stores (vs := [(.int _ _), (.int _ _), (.slice _ _ _)]) 5 rfl Try.sizeOf136 rfl rfl rfl (by simp [Value.oneCell']) (by simp) ?_
      refine o_val rfl rfl rfl (y_assign (v := (.bool _)) rfl) ?_
      refine o_nil ?_
      refine s_ret ?_
      have hpk : slotP K n (findI wo.its n) (findI wx.its n) (findI wy.its n) = (some cx.d, [KL.mk 0 n 0 0]) := by rw [hfo, hfx, hfy, slotP_not (fun hh => by have := hh.1; simp at this)]; unfold restP; first | (simp [e3]; done) | exact absurd rfl e3 | (simp only [Option.getD_some, Option.getD_none] at e3; simp [e3]; done)
      rw [hfo, hfx, hfy] at hpk
      exact ⟨_, [_, E35, []], resv2 rfl (RV.cells (cs := [_, _, _]) rfl Try.isAgg136 Try.sizeOf136 rfl rfl (cels_own 5 rfl rfl)) (RV.tmp rfl), ⟨cx, true, kl ++ [KL.mk 0 n 0 0], A33, c34, E35, [], rfl, IOK.sub hX orM_left, (by rw [hpk]; rfl), (by rw [hpk]), (by rw [List.length_append]; exact ho38), rfl⟩, (by rw [List.length_append]; exact sub_picks [0, 0, 4] rfl)⟩
  · refine o_val rfl rfl rfl (y_move (v := (.bool _)) rfl) ?_
    refine o_val rfl rfl rfl (y_move (v := (.bool _)) rfl) ?_
    refine o_guard_no rfl rfl rfl rfl rfl ?_
    refine o_val rfl rfl rfl (y_pick_f (v := (.bool _)) rfl rfl) ?_
    refine o_val rfl rfl rfl (y_move (v := (.bool _)) rfl) ?_
    refine o_guard_no rfl rfl rfl rfl rfl ?_
    refine o_val rfl rfl rfl (y_pick_f (v := (.bool _)) rfl rfl) ?_
    refine o_val rfl rfl rfl (y_move (v := (.bool _)) rfl) ?_
    refine o_guard_no rfl rfl rfl rfl rfl ?_
    refine o_guard_no rfl rfl rfl rfl rfl ?_
    refine o_guard_no rfl rfl rfl rfl rfl ?_
    refine o_guard_no rfl rfl rfl rfl rfl ?_
    refine o_guard_no rfl rfl rfl rfl rfl ?_
    refine o_val rfl rfl rfl (y_pick_f (v := (.bool _)) rfl rfl) ?_
    refine o_val rfl rfl rfl (y_move (v := (.bool _)) rfl) ?_
    refine o_guard_no rfl rfl rfl rfl rfl ?_
    refine o_guard_no rfl rfl rfl rfl rfl ?_
    refine o_guard_no rfl rfl rfl rfl rfl ?_
    refine o_guard_no rfl rfl rfl rfl rfl ?_
    refine o_guard_no rfl rfl rfl rfl rfl ?_
    refine o_val rfl rfl rfl (y_pick_f (v := (.bool _)) rfl rfl) ?_
    refine o_val rfl rfl rfl (y_assign (v := (.bool _)) rfl) ?_
    refine o_nil ?_
    refine s_forget [(0, (.pointer _)), (1, (.int _ _)), (2, (.int _ _)), (12, (.pointer _)), (13, (.bool _)), (14, (.pointer _)), (15, (.bool _)), (16, (.pointer _)), (17, (.bool _)), (18, (.pointer _)), (19, (.bool _)), (38, (.bool _))] ⟨rfl, rfl, rfl, rfl, rfl, rfl, rfl, rfl, rfl, rfl, rfl, rfl, trivial⟩ (fun _f => ?_)
    refine s_else rfl ?_
    refine s_seq ?_
    refine s_region ?_
    refine o_val rfl rfl rfl (y_move (v := (.bool _)) rfl) ?_
    refine o_val rfl rfl rfl (y_move (v := (.bool _)) rfl) ?_
    refine o_val rfl rfl rfl (y_eql_bool Try.underlying4 rfl rfl) ?_
    refine o_val rfl rfl rfl (y_move (v := (.bool _)) rfl) ?_
    refine o_guard_yes rfl rfl ?_
    refine o_val rfl rfl rfl (y_loads (cs := [_, _, _]) Try.isAgg136 Try.sizeOf136 rfl rfl rfl (cels_own 8 rfl rfl)) ?_
    refine o_guard_yes rfl rfl ?_
    refine o_val rfl rfl rfl (y_loads (cs := [_, _, _]) Try.isAgg136 Try.sizeOf136 rfl rfl rfl (cels_own 9 rfl rfl)) ?_
    refine o_guard_yes rfl rfl ?_
    refine o_fn 0 (d := 73) rfl Try.call155 (SameM_c _ _ (IOK.sub hX (hm0.trans MSub.ext)) (IOK.sub hY (hm0.trans MSub.ext))) rfl ?_
    rintro _ _ ⟨rfl, rfl⟩
    refine o_val rfl rfl rfl (y_pick_t (v := (.bool _)) rfl rfl) ?_
    refine o_val rfl rfl rfl (y_assign (v := (.bool _)) rfl) ?_
    refine o_nil ?_
    refine s_if rfl (fun h39 => ?_) (fun h40 => ?_)
    · have e1 := h39
      refine s_seq ?_
      refine s_region ?_
      refine o_val rfl rfl rfl (y_loads (cs := [_, _, _]) Try.isAgg136 Try.sizeOf136 rfl rfl rfl (cels_own 8 rfl rfl)) ?_
      refine o_val rfl rfl rfl (y_move (v := (.bool _)) rfl) ?_
      refine o_stores (vs := [(.int _ _), (.int _ _), (.slice _ _ _)]) 5 rfl Try.sizeOf136 rfl rfl rfl (by simp [Value.oneCell']) (by simp) ?_
      refine o_val rfl rfl rfl (y_assign (v := (.bool _)) rfl) ?_
      refine o_nil ?_
      refine s_norm [[(_, .cells [(.slice _ _ _)].toArray 184 (0, 0))], _, [(_, .cells [(.slice _ _ _), (.slice _ _ _), (.slice _ _ _)].toArray 47 (0, 0))], [(_, .cells [(.slice _ _ _), (.slice _ _ _), (.slice _ _ _)].toArray 47 (0, 0))], [(_, .cells [(.slice _ _ _), (.slice _ _ _), (.slice _ _ _)].toArray 47 (0, 0))], [(_, .cells [(.int _ _), (.int _ _), (.slice _ _ _)].toArray 136 (0, 0))], _, [(_, .cells [(.int _ _), (.int _ _), (.slice _ _ _)].toArray 136 (0, 0))], [(_, .cells [(.int _ _), (.int _ _), (.slice _ _ _)].toArray 136 (0, 0))], [(_, .cells [(.int _ _), (.int _ _), (.slice _ _ _)].toArray 136 (0, 0))]] rfl ?_
      refine s_ret ?_
      have hpk : slotP K n (findI wo.its n) (findI wx.its n) (findI wy.its n) = (some cx.d, []) := by rw [hfo, hfx, hfy, slotP_not (fun hh => by have := hh.1; simp at this)]; unfold restP; first | (simp [e1]; done) | exact absurd rfl e1 | (simp only [Option.getD_some, Option.getD_none] at e1; simp [e1]; done)
      rw [hfo, hfx, hfy] at hpk
      exact ⟨_, [_, cE, []], resv2 rfl (RV.cells (cs := [_, _, _]) rfl Try.isAgg136 Try.sizeOf136 rfl rfl (cels_own 5 rfl rfl)) (RV.tmp rfl), ⟨cx, true, kl, cA, cc, cE, [], rfl, IOK.sub hX orM_left, (by rw [hpk]; rfl), (by rw [hpk]; exact (List.append_nil _).symm), hcl, rfl⟩, sub_picks [0, 0, 4] rfl⟩
    · have e1 := h40
      refine s_seq ?_
      refine s_region ?_
      refine o_val rfl rfl rfl (y_move (v := (.bool _)) rfl) ?_
      refine o_val rfl rfl rfl (y_move (v := (.bool _)) rfl) ?_
      refine o_val rfl rfl rfl (y_eql_bool Try.underlying4 rfl rfl) ?_
      refine o_val rfl rfl rfl (y_move (v := (.bool _)) rfl) ?_
      refine o_guard_no rfl rfl rfl rfl rfl ?_
      refine o_guard_no rfl rfl rfl rfl rfl ?_
      refine o_guard_no rfl rfl rfl rfl rfl ?_
      refine o_val rfl rfl rfl (y_pick_f (v := (.bool _)) rfl rfl) ?_
      refine o_val rfl rfl rfl (y_assign (v := (.bool _)) rfl) ?_
      refine o_nil ?_
      refine s_forget [(0, (.pointer _)), (1, (.int _ _)), (12, (.pointer _)), (13, (.bool _)), (14, (.pointer _)), (15, (.bool _)), (16, (.pointer _)), (17, (.bool _)), (18, (.pointer _)), (19, (.bool _)), (77, (.bool _))] ⟨rfl, rfl, rfl, rfl, rfl, rfl, rfl, rfl, rfl, rfl, rfl, trivial⟩ (fun _f => ?_)
      refine s_else rfl ?_
      refine s_seq ?_
      refine s_region ?_
      refine o_val rfl rfl rfl (y_move (v := (.bool _)) rfl) ?_
      refine o_val rfl rfl rfl (y_move (v := (.bool _)) rfl) ?_
      refine o_val rfl rfl rfl (y_eql_bool Try.underlying4 rfl rfl) ?_
      refine o_val rfl rfl rfl (y_move (v := (.bool _)) rfl) ?_
      refine o_guard_no rfl rfl rfl rfl rfl ?_
      refine o_guard_no rfl rfl rfl rfl rfl ?_
      refine o_guard_no rfl rfl rfl rfl rfl ?_
      refine o_val rfl rfl rfl (y_pick_f (v := (.bool _)) rfl rfl) ?_
      refine o_val rfl rfl rfl (y_assign (v := (.bool _)) rfl) ?_
      refine o_nil ?_
      refine s_else rfl ?_
      refine s_skip ?_
      refine s_seq ?_
      refine s_region ?_
      refine o_val rfl rfl rfl (y_move (v := (.pointer _)) rfl) ?_
      refine o_val rfl rfl rfl (y_move (v := (.pointer _)) rfl) ?_
      refine o_val rfl rfl rfl (y_nilCheck rfl) ?_
      refine o_val rfl rfl rfl (y_field0 Try.runUnderlying184 rfl Try.sizeOf50 rfl rfl) ?_
      refine o_val rfl rfl rfl (y_load Try.isAgg50 rfl (cel_own 0 rfl rfl)) ?_
      refine o_val rfl rfl rfl (y_move (v := (.int _ _)) rfl) ?_
      refine o_val rfl rfl rfl (y_build (vs := [(0, .int _ _), (1, .int _ _), (2, .int _ _), (3, .int _ _)]) rfl (SlotM_k0 _ _ _ _)) ?_
      refine o_lit (vs := [(0, .agg #[.int _ _, .int _ _, .int _ _, .int _ _])]) rfl rfl (SlotM_k1 _ _ _ _) (fun b41 => ?_)
      refine o_append (sz := 4) (bytes := 32) (news := [(.int _ _), (.int _ _), (.int _ _), (.int _ _)]) 1 rfl Try.underlying50 Try.type68 rfl rfl rfl rfl rfl hcl rfl rfl (Src.slice Try.underlying50 (cels_own 10 rfl rfl) rfl (by simp [Value.oneCell']) (by simp)) (by omega) (fun A42 c43 E44 ho45 hn46 => ?_)
      have ho47 : OS A42 (kl.length + 1) c43 68 4 ((kl ++ [KL.mk 0 n 0 0]).flatMap encKL) E44 := os_snoc ho45 rfl
      clear ho45
      refine o_val rfl rfl rfl (y_nilCheck rfl) ?_
      refine o_val rfl rfl rfl (y_field0 Try.runUnderlying184 rfl Try.sizeOf50 rfl rfl) ?_
      refine o_store (v := (.slice _ _ _)) 0 rfl Try.sizeOf50 rfl rfl rfl rfl ?_
      refine o_nil ?_
      refine s_norm [[(_, .cells [(.slice _ _ _)].toArray 184 (0, 0))], _, [(_, .cells [(.slice _ _ _), (.slice _ _ _), (.slice _ _ _)].toArray 47 (0, 0))], [(_, .cells [(.slice _ _ _), (.slice _ _ _), (.slice _ _ _)].toArray 47 (0, 0))], [(_, .cells [(.slice _ _ _), (.slice _ _ _), (.slice _ _ _)].toArray 47 (0, 0))], [(_, .cells [(.int _ _), (.int _ _), (.slice _ _ _)].toArray 136 (0, 0))], _, [(_, .cells [(.int _ _), (.int _ _), (.slice _ _ _)].toArray 136 (0, 0))], [(_, .cells [(.int _ _), (.int _ _), (.slice _ _ _)].toArray 136 (0, 0))], [(_, .cells [(.int _ _), (.int _ _), (.slice _ _ _)].toArray 136 (0, 0))], [(_, .cells [(.int _ _), (.int _ _), (.int _ _), (.int _ _)].toArray 68 (0, 0))]] rfl ?_
      refine s_forget [(12, (.pointer _)), (13, (.bool _)), (16, (.pointer _)), (17, (.bool _))] ⟨rfl, rfl, rfl, rfl, trivial⟩ (fun _f => ?_)
      refine s_seq ?_
      refine s_region ?_
      refine o_val rfl rfl rfl (y_loads (cs := [_, _, _]) Try.isAgg136 Try.sizeOf136 rfl rfl rfl (cels_own 8 rfl rfl)) ?_
      refine o_val rfl rfl rfl (y_move (v := (.bool _)) rfl) ?_
      refine o_stores (vs := [(.int _ _), (.int _ _), (.slice _ _ _)]) 5 rfl Try.sizeOf136 rfl rfl rfl (by simp [Value.oneCell']) (by simp) ?_
      refine o_val rfl rfl rfl (y_assign (v := (.bool _)) rfl) ?_
      refine o_nil ?_
      refine s_ret ?_
      have hpk : slotP K n (findI wo.its n) (findI wx.its n) (findI wy.its n) = (some cx.d, [KL.mk 0 n 0 0]) := by rw [hfo, hfx, hfy, slotP_not (fun hh => by have := hh.1; simp at this)]; unfold restP; first | (simp [e1]; done) | exact absurd rfl e1 | (simp only [Option.getD_some, Option.getD_none] at e1; simp [e1]; done)
      rw [hfo, hfx, hfy] at hpk
      exact ⟨_, [_, E44, []], resv2 rfl (RV.cells (cs := [_, _, _]) rfl Try.isAgg136 Try.sizeOf136 rfl rfl (cels_own 5 rfl rfl)) (RV.tmp rfl), ⟨cx, true, kl ++ [KL.mk 0 n 0 0], A42, c43, E44, [], rfl, IOK.sub hX orM_left, (by rw [hpk]; rfl), (by rw [hpk]), (by rw [List.length_append]; exact ho47), rfl⟩, (by rw [List.length_append]; exact sub_picks [0, 0, 4] rfl)⟩
  · refine o_val rfl rfl rfl (y_move (v := (.bool _)) rfl) ?_
    refine o_val rfl rfl rfl (y_move (v := (.bool _)) rfl) ?_
    refine o_guard_yes rfl rfl ?_
    refine o_val rfl rfl rfl (y_move (v := (.bool _)) rfl) ?_
    refine o_val rfl rfl rfl (y_pick_t (v := (.bool _)) rfl rfl) ?_
    refine o_val rfl rfl rfl (y_move (v := (.bool _)) rfl) ?_
    refine o_guard_no rfl rfl rfl rfl rfl ?_
    refine o_val rfl rfl rfl (y_pick_f (v := (.bool _)) rfl rfl) ?_
    refine o_val rfl rfl rfl (y_move (v := (.bool _)) rfl) ?_
    refine o_guard_no rfl rfl rfl rfl rfl ?_
    refine o_guard_no rfl rfl rfl rfl rfl ?_
    refine o_guard_no rfl rfl rfl rfl rfl ?_
    refine o_guard_no rfl rfl rfl rfl rfl ?_
    refine o_guard_no rfl rfl rfl rfl rfl ?_
    refine o_val rfl rfl rfl (y_pick_f (v := (.bool _)) rfl rfl) ?_
    refine o_val rfl rfl rfl (y_move (v := (.bool _)) rfl) ?_
    refine o_guard_no rfl rfl rfl rfl rfl ?_
    refine o_guard_no rfl rfl rfl rfl rfl ?_
    refine o_guard_no rfl rfl rfl rfl rfl ?_
    refine o_guard_no rfl rfl rfl rfl rfl ?_
    refine o_guard_no rfl rfl rfl rfl rfl ?_
    refine o_val rfl rfl rfl (y_pick_f (v := (.bool _)) rfl rfl) ?_
    refine o_val rfl rfl rfl (y_assign (v := (.bool _)) rfl) ?_
    refine o_nil ?_
    refine s_forget [(0, (.pointer _)), (1, (.int _ _)), (2, (.int _ _)), (12, (.pointer _)), (13, (.bool _)), (14, (.pointer _)), (15, (.bool _)), (16, (.pointer _)), (17, (.bool _)), (18, (.pointer _)), (19, (.bool _)), (38, (.bool _))] ⟨rfl, rfl, rfl, rfl, rfl, rfl, rfl, rfl, rfl, rfl, rfl, rfl, trivial⟩ (fun _f => ?_)
    refine s_else rfl ?_
    refine s_seq ?_
    refine s_region ?_
    refine o_val rfl rfl rfl (y_move (v := (.bool _)) rfl) ?_
    refine o_val rfl rfl rfl (y_move (v := (.bool _)) rfl) ?_
    refine o_val rfl rfl rfl (y_eql_bool Try.underlying4 rfl rfl) ?_
    refine o_val rfl rfl rfl (y_move (v := (.bool _)) rfl) ?_
    refine o_guard_yes rfl rfl ?_
    refine o_val rfl rfl rfl (y_loads (cs := [_, _, _]) Try.isAgg136 Try.sizeOf136 rfl rfl rfl (cels_own 8 rfl rfl)) ?_
    refine o_guard_yes rfl rfl ?_
    refine o_val rfl rfl rfl (y_loads (cs := [_, _, _]) Try.isAgg136 Try.sizeOf136 rfl rfl rfl (cels_own 9 rfl rfl)) ?_
    refine o_guard_yes rfl rfl ?_
    refine o_fn 0 (d := 73) rfl Try.call155 (SameM_c _ _ (IOK.sub hX (hm0.trans MSub.ext)) (IOK.sub hY (hm0.trans MSub.ext))) rfl ?_
    rintro _ _ ⟨rfl, rfl⟩
    refine o_val rfl rfl rfl (y_pick_t (v := (.bool _)) rfl rfl) ?_
    refine o_val rfl rfl rfl (y_assign (v := (.bool _)) rfl) ?_
    refine o_nil ?_
    refine s_if rfl (fun h48 => ?_) (fun h49 => ?_)
    · have e1 := h48
      refine s_seq ?_
      refine s_region ?_
      refine o_val rfl rfl rfl (y_loads (cs := [_, _, _]) Try.isAgg136 Try.sizeOf136 rfl rfl rfl (cels_own 8 rfl rfl)) ?_
      refine o_val rfl rfl rfl (y_move (v := (.bool _)) rfl) ?_
      refine o_stores (vs := [(.int _ _), (.int _ _), (.slice _ _ _)]) 5 rfl Try.sizeOf136 rfl rfl rfl (by simp [Value.oneCell']) (by simp) ?_
      refine o_val rfl rfl rfl (y_assign (v := (.bool _)) rfl) ?_
      refine o_nil ?_
      refine s_norm [[(_, .cells [(.slice _ _ _)].toArray 184 (0, 0))], _, [(_, .cells [(.slice _ _ _), (.slice _ _ _), (.slice _ _ _)].toArray 47 (0, 0))], [(_, .cells [(.slice _ _ _), (.slice _ _ _), (.slice _ _ _)].toArray 47 (0, 0))], [(_, .cells [(.slice _ _ _), (.slice _ _ _), (.slice _ _ _)].toArray 47 (0, 0))], [(_, .cells [(.int _ _), (.int _ _), (.slice _ _ _)].toArray 136 (0, 0))], _, [(_, .cells [(.int _ _), (.int _ _), (.slice _ _ _)].toArray 136 (0, 0))], [(_, .cells [(.int _ _), (.int _ _), (.slice _ _ _)].toArray 136 (0, 0))], [(_, .cells [(.int _ _), (.int _ _), (.slice _ _ _)].toArray 136 (0, 0))]] rfl ?_
      refine s_ret ?_
      have hpk : slotP K n (findI wo.its n) (findI wx.its n) (findI wy.its n) = (none, []) := by rw [hfo, hfx, hfy, slotP_not (fun hh => by have := hh.1; simp at this)]; unfold restP; first | (simp [e1]; done) | exact absurd rfl e1 | (simp only [Option.getD_some, Option.getD_none] at e1; simp [e1]; done)
      rw [hfo, hfx, hfy] at hpk
      exact ⟨_, [_, cE, []], resv2 rfl (RV.cells (cs := [_, _, _]) rfl Try.isAgg136 Try.sizeOf136 rfl rfl (cels_own 5 rfl rfl)) (RV.tmp rfl), ⟨(default : IR), false, kl, cA, cc, cE, [], rfl, IOK.sub hX orM_left, (by rw [hpk]; rfl), (by rw [hpk]; exact (List.append_nil _).symm), hcl, rfl⟩, sub_picks [0, 0, 4] rfl⟩
    · have e1 := h49
      refine s_seq ?_
      refine s_region ?_
      refine o_val rfl rfl rfl (y_move (v := (.bool _)) rfl) ?_
      refine o_val rfl rfl rfl (y_move (v := (.bool _)) rfl) ?_
      refine o_val rfl rfl rfl (y_eql_bool Try.underlying4 rfl rfl) ?_
      refine o_val rfl rfl rfl (y_move (v := (.bool _)) rfl) ?_
      refine o_guard_no rfl rfl rfl rfl rfl ?_
      refine o_guard_no rfl rfl rfl rfl rfl ?_
      refine o_guard_no rfl rfl rfl rfl rfl ?_
      refine o_val rfl rfl rfl (y_pick_f (v := (.bool _)) rfl rfl) ?_
      refine o_val rfl rfl rfl (y_assign (v := (.bool _)) rfl) ?_
      refine o_nil ?_
      refine s_forget [(0, (.pointer _)), (1, (.int _ _)), (12, (.pointer _)), (13, (.bool _)), (14, (.pointer _)), (15, (.bool _)), (16, (.pointer _)), (17, (.bool _)), (18, (.pointer _)), (19, (.bool _)), (77, (.bool _))] ⟨rfl, rfl, rfl, rfl, rfl, rfl, rfl, rfl, rfl, rfl, rfl, trivial⟩ (fun _f => ?_)
      refine s_else rfl ?_
      refine s_seq ?_
      refine s_region ?_
      refine o_val rfl rfl rfl (y_move (v := (.bool _)) rfl) ?_
      refine o_val rfl rfl rfl (y_move (v := (.bool _)) rfl) ?_
      refine o_val rfl rfl rfl (y_eql_bool Try.underlying4 rfl rfl) ?_
      refine o_val rfl rfl rfl (y_move (v := (.bool _)) rfl) ?_
      refine o_guard_no rfl rfl rfl rfl rfl ?_
      refine o_guard_no rfl rfl rfl rfl rfl ?_
      refine o_guard_no rfl rfl rfl rfl rfl ?_
      refine o_val rfl rfl rfl (y_pick_f (v := (.bool _)) rfl rfl) ?_
      refine o_val rfl rfl rfl (y_assign (v := (.bool _)) rfl) ?_
      refine o_nil ?_
      refine s_else rfl ?_
      refine s_skip ?_
      refine s_seq ?_
      refine s_region ?_
      refine o_val rfl rfl rfl (y_move (v := (.pointer _)) rfl) ?_
      refine o_val rfl rfl rfl (y_move (v := (.pointer _)) rfl) ?_
      refine o_val rfl rfl rfl (y_nilCheck rfl) ?_
      refine o_val rfl rfl rfl (y_field0 Try.runUnderlying184 rfl Try.sizeOf50 rfl rfl) ?_
      refine o_val rfl rfl rfl (y_load Try.isAgg50 rfl (cel_own 0 rfl rfl)) ?_
      refine o_val rfl rfl rfl (y_move (v := (.int _ _)) rfl) ?_
      refine o_val rfl rfl rfl (y_build (vs := [(0, .int _ _), (1, .int _ _), (2, .int _ _), (3, .int _ _)]) rfl (SlotM_k0 _ _ _ _)) ?_
      refine o_lit (vs := [(0, .agg #[.int _ _, .int _ _, .int _ _, .int _ _])]) rfl rfl (SlotM_k1 _ _ _ _) (fun b50 => ?_)
      refine o_append (sz := 4) (bytes := 32) (news := [(.int _ _), (.int _ _), (.int _ _), (.int _ _)]) 1 rfl Try.underlying50 Try.type68 rfl rfl rfl rfl rfl hcl rfl rfl (Src.slice Try.underlying50 (cels_own 10 rfl rfl) rfl (by simp [Value.oneCell']) (by simp)) (by omega) (fun A51 c52 E53 ho54 hn55 => ?_)
      have ho56 : OS A51 (kl.length + 1) c52 68 4 ((kl ++ [KL.mk 0 n 0 0]).flatMap encKL) E53 := os_snoc ho54 rfl
      clear ho54
      refine o_val rfl rfl rfl (y_nilCheck rfl) ?_
      refine o_val rfl rfl rfl (y_field0 Try.runUnderlying184 rfl Try.sizeOf50 rfl rfl) ?_
      refine o_store (v := (.slice _ _ _)) 0 rfl Try.sizeOf50 rfl rfl rfl rfl ?_
      refine o_nil ?_
      refine s_norm [[(_, .cells [(.slice _ _ _)].toArray 184 (0, 0))], _, [(_, .cells [(.slice _ _ _), (.slice _ _ _), (.slice _ _ _)].toArray 47 (0, 0))], [(_, .cells [(.slice _ _ _), (.slice _ _ _), (.slice _ _ _)].toArray 47 (0, 0))], [(_, .cells [(.slice _ _ _), (.slice _ _ _), (.slice _ _ _)].toArray 47 (0, 0))], [(_, .cells [(.int _ _), (.int _ _), (.slice _ _ _)].toArray 136 (0, 0))], _, [(_, .cells [(.int _ _), (.int _ _), (.slice _ _ _)].toArray 136 (0, 0))], [(_, .cells [(.int _ _), (.int _ _), (.slice _ _ _)].toArray 136 (0, 0))], [(_, .cells [(.int _ _), (.int _ _), (.slice _ _ _)].toArray 136 (0, 0))], [(_, .cells [(.int _ _), (.int _ _), (.int _ _), (.int _ _)].toArray 68 (0, 0))]] rfl ?_
      refine s_forget [(12, (.pointer _)), (13, (.bool _)), (16, (.pointer _)), (17, (.bool _))] ⟨rfl, rfl, rfl, rfl, trivial⟩ (fun _f => ?_)
      refine s_seq ?_
      refine s_region ?_
      refine o_val rfl rfl rfl (y_loads (cs := [_, _, _]) Try.isAgg136 Try.sizeOf136 rfl rfl rfl (cels_own 8 rfl rfl)) ?_
      refine o_val rfl rfl rfl (y_move (v := (.bool _)) rfl) ?_
      refine o_stores (vs := [(.int _ _), (.int _ _), (.slice _ _ _)]) 5 rfl Try.sizeOf136 rfl rfl rfl (by simp [Value.oneCell']) (by simp) ?_
      refine o_val rfl rfl rfl (y_assign (v := (.bool _)) rfl) ?_
      refine o_nil ?_
      refine s_ret ?_
      have hpk : slotP K n (findI wo.its n) (findI wx.its n) (findI wy.its n) = (none, [KL.mk 0 n 0 0]) := by rw [hfo, hfx, hfy, slotP_not (fun hh => by have := hh.1; simp at this)]; unfold restP; first | (simp [e1]; done) | exact absurd rfl e1 | (simp only [Option.getD_some, Option.getD_none] at e1; simp [e1]; done)
      rw [hfo, hfx, hfy] at hpk
      exact ⟨_, [_, E53, []], resv2 rfl (RV.cells (cs := [_, _, _]) rfl Try.isAgg136 Try.sizeOf136 rfl rfl (cels_own 5 rfl rfl)) (RV.tmp rfl), ⟨(default : IR), false, kl ++ [KL.mk 0 n 0 0], A51, c52, E53, [], rfl, IOK.sub hX orM_left, (by rw [hpk]; rfl), (by rw [hpk]), (by rw [List.length_append]; exact ho56), rfl⟩, (by rw [List.length_append]; exact sub_picks [0, 0, 4] rfl)⟩
  · refine o_val rfl rfl rfl (y_move (v := (.bool _)) rfl) ?_
    refine o_val rfl rfl rfl (y_move (v := (.bool _)) rfl) ?_
    refine o_guard_yes rfl rfl ?_
    refine o_val rfl rfl rfl (y_move (v := (.bool _)) rfl) ?_
    refine o_val rfl rfl rfl (y_pick_t (v := (.bool _)) rfl rfl) ?_
    refine o_val rfl rfl rfl (y_move (v := (.bool _)) rfl) ?_
    refine o_guard_no rfl rfl rfl rfl rfl ?_
    refine o_val rfl rfl rfl (y_pick_f (v := (.bool _)) rfl rfl) ?_
    refine o_val rfl rfl rfl (y_move (v := (.bool _)) rfl) ?_
    refine o_guard_no rfl rfl rfl rfl rfl ?_
    refine o_guard_no rfl rfl rfl rfl rfl ?_
    refine o_guard_no rfl rfl rfl rfl rfl ?_
    refine o_guard_no rfl rfl rfl rfl rfl ?_
    refine o_guard_no rfl rfl rfl rfl rfl ?_
    refine o_val rfl rfl rfl (y_pick_f (v := (.bool _)) rfl rfl) ?_
    refine o_val rfl rfl rfl (y_move (v := (.bool _)) rfl) ?_
    refine o_guard_no rfl rfl rfl rfl rfl ?_
    refine o_guard_no rfl rfl rfl rfl rfl ?_
    refine o_guard_no rfl rfl rfl rfl rfl ?_
    refine o_guard_no rfl rfl rfl rfl rfl ?_
    refine o_guard_no rfl rfl rfl rfl rfl ?_
    refine o_val rfl rfl rfl (y_pick_f (v := (.bool _)) rfl rfl) ?_
    refine o_val rfl rfl rfl (y_assign (v := (.bool _)) rfl) ?_
    refine o_nil ?_
    refine s_forget [(0, (.pointer _)), (1, (.int _ _)), (2, (.int _ _)), (12, (.pointer _)), (13, (.bool _)), (14, (.pointer _)), (15, (.bool _)), (16, (.pointer _)), (17, (.bool _)), (18, (.pointer _)), (19, (.bool _)), (38, (.bool _))] ⟨rfl, rfl, rfl, rfl, rfl, rfl, rfl, rfl, rfl, rfl, rfl, rfl, trivial⟩ (fun _f => ?_)
    refine s_else rfl ?_
    refine s_seq ?_
    refine s_region ?_
    refine o_val rfl rfl rfl (y_move (v := (.bool _)) rfl) ?_
    refine o_val rfl rfl rfl (y_move (v := (.bool _)) rfl) ?_
    refine o_val rfl rfl rfl (y_eql_bool Try.underlying4 rfl rfl) ?_
    refine o_val rfl rfl rfl (y_move (v := (.bool _)) rfl) ?_
    refine o_guard_no rfl rfl rfl rfl rfl ?_
    refine o_guard_no rfl rfl rfl rfl rfl ?_
    refine o_guard_no rfl rfl rfl rfl rfl ?_
    refine o_val rfl rfl rfl (y_pick_f (v := (.bool _)) rfl rfl) ?_
    refine o_val rfl rfl rfl (y_assign (v := (.bool _)) rfl) ?_
    refine o_nil ?_
    refine s_else rfl ?_
    refine s_seq ?_
    refine s_region ?_
    refine o_val rfl rfl rfl (y_move (v := (.bool _)) rfl) ?_
    refine o_val rfl rfl rfl (y_move (v := (.bool _)) rfl) ?_
    refine o_val rfl rfl rfl (y_eql_bool Try.underlying4 rfl rfl) ?_
    refine o_val rfl rfl rfl (y_move (v := (.bool _)) rfl) ?_
    refine o_guard_no rfl rfl rfl rfl rfl ?_
    refine o_guard_no rfl rfl rfl rfl rfl ?_
    refine o_guard_no rfl rfl rfl rfl rfl ?_
    refine o_val rfl rfl rfl (y_pick_f (v := (.bool _)) rfl rfl) ?_
    refine o_val rfl rfl rfl (y_assign (v := (.bool _)) rfl) ?_
    refine o_nil ?_
    refine s_forget [(0, (.pointer _)), (1, (.int _ _)), (12, (.pointer _)), (13, (.bool _)), (14, (.pointer _)), (15, (.bool _)), (16, (.pointer _)), (17, (.bool _)), (18, (.pointer _)), (19, (.bool _)), (77, (.bool _))] ⟨rfl, rfl, rfl, rfl, rfl, rfl, rfl, rfl, rfl, rfl, rfl, trivial⟩ (fun _f => ?_)
    refine s_else rfl ?_
    refine s_seq ?_
    refine s_region ?_
    refine o_val rfl rfl rfl (y_move (v := (.bool _)) rfl) ?_
    refine o_val rfl rfl rfl (y_move (v := (.bool _)) rfl) ?_
    refine o_val rfl rfl rfl (y_eql_bool Try.underlying4 rfl rfl) ?_
    refine o_val rfl rfl rfl (y_move (v := (.bool _)) rfl) ?_
    refine o_guard_yes rfl rfl ?_
    refine o_val rfl rfl rfl (y_loads (cs := [_, _, _]) Try.isAgg136 Try.sizeOf136 rfl rfl rfl (cels_own 9 rfl rfl)) ?_
    refine o_guard_yes rfl rfl ?_
    refine o_val rfl rfl rfl (y_loads (cs := [_, _, _]) Try.isAgg136 Try.sizeOf136 rfl rfl rfl (cels_own 7 rfl rfl)) ?_
    refine o_guard_yes rfl rfl ?_
    refine o_fn 0 (d := 95) rfl Try.call155 (SameM_c _ _ (IOK.sub hY (hm0.trans MSub.ext)) (IOK.sub hO (hm0.trans MSub.ext))) rfl ?_
    rintro _ _ ⟨rfl, rfl⟩
    refine o_val rfl rfl rfl (y_pick_t (v := (.bool _)) rfl rfl) ?_
    refine o_val rfl rfl rfl (y_assign (v := (.bool _)) rfl) ?_
    refine o_nil ?_
    refine s_if rfl (fun h57 => ?_) (fun h58 => ?_)
    · have e3 := h57
      refine s_seq ?_
      refine s_region ?_
      refine o_val rfl rfl rfl (y_loads (cs := [_, _, _]) Try.isAgg136 Try.sizeOf136 rfl rfl rfl (cels_own 8 rfl rfl)) ?_
      refine o_val rfl rfl rfl (y_move (v := (.bool _)) rfl) ?_
      refine o_stores (vs := [(.int _ _), (.int _ _), (.slice _ _ _)]) 5 rfl Try.sizeOf136 rfl rfl rfl (by simp [Value.oneCell']) (by simp) ?_
      refine o_val rfl rfl rfl (y_assign (v := (.bool _)) rfl) ?_
      refine o_nil ?_
      refine s_norm [[(_, .cells [(.slice _ _ _)].toArray 184 (0, 0))], _, [(_, .cells [(.slice _ _ _), (.slice _ _ _), (.slice _ _ _)].toArray 47 (0, 0))], [(_, .cells [(.slice _ _ _), (.slice _ _ _), (.slice _ _ _)].toArray 47 (0, 0))], [(_, .cells [(.slice _ _ _), (.slice _ _ _), (.slice _ _ _)].toArray 47 (0, 0))], [(_, .cells [(.int _ _), (.int _ _), (.slice _ _ _)].toArray 136 (0, 0))], _, [(_, .cells [(.int _ _), (.int _ _), (.slice _ _ _)].toArray 136 (0, 0))], [(_, .cells [(.int _ _), (.int _ _), (.slice _ _ _)].toArray 136 (0, 0))], [(_, .cells [(.int _ _), (.int _ _), (.slice _ _ _)].toArray 136 (0, 0))]] rfl ?_
      refine s_ret ?_
      have hpk : slotP K n (findI wo.its n) (findI wx.its n) (findI wy.its n) = (none, []) := by rw [hfo, hfx, hfy, slotP_not (fun hh => by have := hh.1; simp at this)]; unfold restP; first | (simp [e3]; done) | exact absurd rfl e3 | (simp only [Option.getD_some, Option.getD_none] at e3; simp [e3]; done)
      rw [hfo, hfx, hfy] at hpk
      exact ⟨_, [_, cE, []], resv2 rfl (RV.cells (cs := [_, _, _]) rfl Try.isAgg136 Try.sizeOf136 rfl rfl (cels_own 5 rfl rfl)) (RV.tmp rfl), ⟨(default : IR), false, kl, cA, cc, cE, [], rfl, IOK.sub hX orM_left, (by rw [hpk]; rfl), (by rw [hpk]; exact (List.append_nil _).symm), hcl, rfl⟩, sub_picks [0, 0, 4] rfl⟩
    · have e3 := h58
      refine s_skip ?_
      refine s_seq ?_
      refine s_region ?_
      refine o_val rfl rfl rfl (y_move (v := (.pointer _)) rfl) ?_
      refine o_val rfl rfl rfl (y_move (v := (.pointer _)) rfl) ?_
      refine o_val rfl rfl rfl (y_nilCheck rfl) ?_
      refine o_val rfl rfl rfl (y_field0 Try.runUnderlying184 rfl Try.sizeOf50 rfl rfl) ?_
      refine o_val rfl rfl rfl (y_load Try.isAgg50 rfl (cel_own 0 rfl rfl)) ?_
      refine o_val rfl rfl rfl (y_move (v := (.int _ _)) rfl) ?_
      refine o_val rfl rfl rfl (y_build (vs := [(0, .int _ _), (1, .int _ _), (2, .int _ _), (3, .int _ _)]) rfl (SlotM_k0 _ _ _ _)) ?_
      refine o_lit (vs := [(0, .agg #[.int _ _, .int _ _, .int _ _, .int _ _])]) rfl rfl (SlotM_k1 _ _ _ _) (fun b59 => ?_)
      refine o_append (sz := 4) (bytes := 32) (news := [(.int _ _), (.int _ _), (.int _ _), (.int _ _)]) 1 rfl Try.underlying50 Try.type68 rfl rfl rfl rfl rfl hcl rfl rfl (Src.slice Try.underlying50 (cels_own 10 rfl rfl) rfl (by simp [Value.oneCell']) (by simp)) (by omega) (fun A60 c61 E62 ho63 hn64 => ?_)
      have ho65 : OS A60 (kl.length + 1) c61 68 4 ((kl ++ [KL.mk 0 n 0 0]).flatMap encKL) E62 := os_snoc ho63 rfl
      clear ho63
      refine o_val rfl rfl rfl (y_nilCheck rfl) ?_
      refine o_val rfl rfl rfl (y_field0 Try.runUnderlying184 rfl Try.sizeOf50 rfl rfl) ?_
      refine o_store (v := (.slice _ _ _)) 0 rfl Try.sizeOf50 rfl rfl rfl rfl ?_
      refine o_nil ?_
      refine s_norm [[(_, .cells [(.slice _ _ _)].toArray 184 (0, 0))], _, [(_, .cells [(.slice _ _ _), (.slice _ _ _), (.slice _ _ _)].toArray 47 (0, 0))], [(_, .cells [(.slice _ _ _), (.slice _ _ _), (.slice _ _ _)].toArray 47 (0, 0))], [(_, .cells [(.slice _ _ _), (.slice _ _ _), (.slice _ _ _)].toArray 47 (0, 0))], [(_, .cells [(.int _ _), (.int _ _), (.slice _ _ _)].toArray 136 (0, 0))], _, [(_, .cells [(.int _ _), (.int _ _), (.slice _ _ _)].toArray 136 (0, 0))], [(_, .cells [(.int _ _), (.int _ _), (.slice _ _ _)].toArray 136 (0, 0))], [(_, .cells [(.int _ _), (.int _ _), (.slice _ _ _)].toArray 136 (0, 0))], [(_, .cells [(.int _ _), (.int _ _), (.int _ _), (.int _ _)].toArray 68 (0, 0))]] rfl ?_
      refine s_forget [(12, (.pointer _)), (13, (.bool _)), (16, (.pointer _)), (17, (.bool _))] ⟨rfl, rfl, rfl, rfl, trivial⟩ (fun _f => ?_)
      refine s_seq ?_
      refine s_region ?_
      refine o_val rfl rfl rfl (y_loads (cs := [_, _, _]) Try.isAgg136 Try.sizeOf136 rfl rfl rfl (cels_own 8 rfl rfl)) ?_
      refine o_val rfl rfl rfl (y_move (v := (.bool _)) rfl) ?_
      refine o_stores (vs := [(.int _ _), (.int _ _), (.slice _ _ _)]) 5 rfl Try.sizeOf136 rfl rfl rfl (by simp [Value.oneCell']) (by simp) ?_
      refine o_val rfl rfl rfl (y_assign (v := (.bool _)) rfl) ?_
      refine o_nil ?_
      refine s_ret ?_
      have hpk : slotP K n (findI wo.its n) (findI wx.its n) (findI wy.its n) = (none, [KL.mk 0 n 0 0]) := by rw [hfo, hfx, hfy, slotP_not (fun hh => by have := hh.1; simp at this)]; unfold restP; first | (simp [e3]; done) | exact absurd rfl e3 | (simp only [Option.getD_some, Option.getD_none] at e3; simp [e3]; done)
      rw [hfo, hfx, hfy] at hpk
      exact ⟨_, [_, E62, []], resv2 rfl (RV.cells (cs := [_, _, _]) rfl Try.isAgg136 Try.sizeOf136 rfl rfl (cels_own 5 rfl rfl)) (RV.tmp rfl), ⟨(default : IR), false, kl ++ [KL.mk 0 n 0 0], A60, c61, E62, [], rfl, IOK.sub hX orM_left, (by rw [hpk]; rfl), (by rw [hpk]), (by rw [List.length_append]; exact ho65), rfl⟩, (by rw [List.length_append]; exact sub_picks [0, 0, 4] rfl)⟩
  · refine o_val rfl rfl rfl (y_move (v := (.bool _)) rfl) ?_
    refine o_val rfl rfl rfl (y_move (v := (.bool _)) rfl) ?_
    refine o_guard_yes rfl rfl ?_
    refine o_val rfl rfl rfl (y_move (v := (.bool _)) rfl) ?_
    refine o_val rfl rfl rfl (y_pick_t (v := (.bool _)) rfl rfl) ?_
    refine o_val rfl rfl rfl (y_move (v := (.bool _)) rfl) ?_
    refine o_guard_yes rfl rfl ?_
    refine o_val rfl rfl rfl (y_move (v := (.bool _)) rfl) ?_
    refine o_val rfl rfl rfl (y_pick_t (v := (.bool _)) rfl rfl) ?_
    refine o_val rfl rfl rfl (y_move (v := (.bool _)) rfl) ?_
    refine o_guard_no rfl rfl rfl rfl rfl ?_
    refine o_guard_no rfl rfl rfl rfl rfl ?_
    refine o_guard_no rfl rfl rfl rfl rfl ?_
    refine o_guard_no rfl rfl rfl rfl rfl ?_
    refine o_guard_no rfl rfl rfl rfl rfl ?_
    refine o_val rfl rfl rfl (y_pick_f (v := (.bool _)) rfl rfl) ?_
    refine o_val rfl rfl rfl (y_move (v := (.bool _)) rfl) ?_
    refine o_guard_no rfl rfl rfl rfl rfl ?_
    refine o_guard_no rfl rfl rfl rfl rfl ?_
    refine o_guard_no rfl rfl rfl rfl rfl ?_
    refine o_guard_no rfl rfl rfl rfl rfl ?_
    refine o_guard_no rfl rfl rfl rfl rfl ?_
    refine o_val rfl rfl rfl (y_pick_f (v := (.bool _)) rfl rfl) ?_
    refine o_val rfl rfl rfl (y_assign (v := (.bool _)) rfl) ?_
    refine o_nil ?_
    refine s_forget [(0, (.pointer _)), (1, (.int _ _)), (2, (.int _ _)), (12, (.pointer _)), (13, (.bool _)), (14, (.pointer _)), (15, (.bool _)), (16, (.pointer _)), (17, (.bool _)), (18, (.pointer _)), (19, (.bool _)), (38, (.bool _))] ⟨rfl, rfl, rfl, rfl, rfl, rfl, rfl, rfl, rfl, rfl, rfl, rfl, trivial⟩ (fun _f => ?_)
    refine s_else rfl ?_
    refine s_seq ?_
    refine s_region ?_
    refine o_val rfl rfl rfl (y_move (v := (.bool _)) rfl) ?_
    refine o_val rfl rfl rfl (y_move (v := (.bool _)) rfl) ?_
    refine o_val rfl rfl rfl (y_eql_bool Try.underlying4 rfl rfl) ?_
    refine o_val rfl rfl rfl (y_move (v := (.bool _)) rfl) ?_
    refine o_guard_no rfl rfl rfl rfl rfl ?_
    refine o_guard_no rfl rfl rfl rfl rfl ?_
    refine o_guard_no rfl rfl rfl rfl rfl ?_
    refine o_val rfl rfl rfl (y_pick_f (v := (.bool _)) rfl rfl) ?_
    refine o_val rfl rfl rfl (y_assign (v := (.bool _)) rfl) ?_
    refine o_nil ?_
    refine s_else rfl ?_
    refine s_seq ?_
    refine s_region ?_
    refine o_val rfl rfl rfl (y_move (v := (.bool _)) rfl) ?_
    refine o_val rfl rfl rfl (y_move (v := (.bool _)) rfl) ?_
    refine o_val rfl rfl rfl (y_eql_bool Try.underlying4 rfl rfl) ?_
    refine o_val rfl rfl rfl (y_move (v := (.bool _)) rfl) ?_
    refine o_guard_yes rfl rfl ?_
    refine o_val rfl rfl rfl (y_loads (cs := [_, _, _]) Try.isAgg136 Try.sizeOf136 rfl rfl rfl (cels_own 8 rfl rfl)) ?_
    refine o_guard_yes rfl rfl ?_
    refine o_val rfl rfl rfl (y_loads (cs := [_, _, _]) Try.isAgg136 Try.sizeOf136 rfl rfl rfl (cels_own 7 rfl rfl)) ?_
    refine o_guard_yes rfl rfl ?_
    refine o_fn 0 (d := 84) rfl Try.call155 (SameM_c _ _ (IOK.sub hX (hm0.trans MSub.ext)) (IOK.sub hO (hm0.trans MSub.ext))) rfl ?_
    rintro _ _ ⟨rfl, rfl⟩
    refine o_val rfl rfl rfl (y_pick_t (v := (.bool _)) rfl rfl) ?_
    refine o_val rfl rfl rfl (y_assign (v := (.bool _)) rfl) ?_
    refine o_nil ?_
    refine s_forget [(0, (.pointer _)), (1, (.int _ _)), (12, (.pointer _)), (13, (.bool _)), (14, (.pointer _)), (15, (.bool _)), (16, (.pointer _)), (17, (.bool _)), (18, (.pointer _)), (19, (.bool _)), (77, (.bool _))] ⟨rfl, rfl, rfl, rfl, rfl, rfl, rfl, rfl, rfl, rfl, rfl, trivial⟩ (fun _f => ?_)
    refine s_if rfl (fun h66 => ?_) (fun h67 => ?_)
    · have e2 := h66
      refine s_seq ?_
      refine s_region ?_
      refine o_val rfl rfl rfl (y_loads (cs := [_, _, _]) Try.isAgg136 Try.sizeOf136 rfl rfl rfl (cels_own 9 rfl rfl)) ?_
      refine o_val rfl rfl rfl (y_move (v := (.bool _)) rfl) ?_
      refine o_stores (vs := [(.int _ _), (.int _ _), (.slice _ _ _)]) 5 rfl Try.sizeOf136 rfl rfl rfl (by simp [Value.oneCell']) (by simp) ?_
      refine o_val rfl rfl rfl (y_assign (v := (.bool _)) rfl) ?_
      refine o_nil ?_
      refine s_norm [[(_, .cells [(.slice _ _ _)].toArray 184 (0, 0))], _, [(_, .cells [(.slice _ _ _), (.slice _ _ _), (.slice _ _ _)].toArray 47 (0, 0))], [(_, .cells [(.slice _ _ _), (.slice _ _ _), (.slice _ _ _)].toArray 47 (0, 0))], [(_, .cells [(.slice _ _ _), (.slice _ _ _), (.slice _ _ _)].toArray 47 (0, 0))], [(_, .cells [(.int _ _), (.int _ _), (.slice _ _ _)].toArray 136 (0, 0))], _, [(_, .cells [(.int _ _), (.int _ _), (.slice _ _ _)].toArray 136 (0, 0))], [(_, .cells [(.int _ _), (.int _ _), (.slice _ _ _)].toArray 136 (0, 0))], [(_, .cells [(.int _ _), (.int _ _), (.slice _ _ _)].toArray 136 (0, 0))]] rfl ?_
      refine s_ret ?_
      have hpk : slotP K n (findI wo.its n) (findI wx.its n) (findI wy.its n) = (none, []) := by rw [hfo, hfx, hfy, slotP_not (fun hh => by have := hh.1; simp at this)]; unfold restP; first | (simp [e2]; done) | exact absurd rfl e2 | (simp only [Option.getD_some, Option.getD_none] at e2; simp [e2]; done)
      rw [hfo, hfx, hfy] at hpk
      exact ⟨_, [_, cE, []], resv2 rfl (RV.cells (cs := [_, _, _]) rfl Try.isAgg136 Try.sizeOf136 rfl rfl (cels_own 5 rfl rfl)) (RV.tmp rfl), ⟨(default : IR), false, kl, cA, cc, cE, [], rfl, IOK.sub hY orM_left, (by rw [hpk]; rfl), (by rw [hpk]; exact (List.append_nil _).symm), hcl, rfl⟩, sub_picks [0, 0, 4] rfl⟩
    · have e2 := h67
      refine s_seq ?_
      refine s_region ?_
      refine o_val rfl rfl rfl (y_move (v := (.bool _)) rfl) ?_
      refine o_val rfl rfl rfl (y_move (v := (.bool _)) rfl) ?_
      refine o_val rfl rfl rfl (y_eql_bool Try.underlying4 rfl rfl) ?_
      refine o_val rfl rfl rfl (y_move (v := (.bool _)) rfl) ?_
      refine o_guard_no rfl rfl rfl rfl rfl ?_
      refine o_guard_no rfl rfl rfl rfl rfl ?_
      refine o_guard_no rfl rfl rfl rfl rfl ?_
      refine o_val rfl rfl rfl (y_pick_f (v := (.bool _)) rfl rfl) ?_
      refine o_val rfl rfl rfl (y_assign (v := (.bool _)) rfl) ?_
      refine o_nil ?_
      refine s_else rfl ?_
      refine s_skip ?_
      refine s_seq ?_
      refine s_region ?_
      refine o_val rfl rfl rfl (y_move (v := (.pointer _)) rfl) ?_
      refine o_val rfl rfl rfl (y_move (v := (.pointer _)) rfl) ?_
      refine o_val rfl rfl rfl (y_nilCheck rfl) ?_
      refine o_val rfl rfl rfl (y_field0 Try.runUnderlying184 rfl Try.sizeOf50 rfl rfl) ?_
      refine o_val rfl rfl rfl (y_load Try.isAgg50 rfl (cel_own 0 rfl rfl)) ?_
      refine o_val rfl rfl rfl (y_move (v := (.int _ _)) rfl) ?_
      refine o_val rfl rfl rfl (y_build (vs := [(0, .int _ _), (1, .int _ _), (2, .int _ _), (3, .int _ _)]) rfl (SlotM_k0 _ _ _ _)) ?_
      refine o_lit (vs := [(0, .agg #[.int _ _, .int _ _, .int _ _, .int _ _])]) rfl rfl (SlotM_k1 _ _ _ _) (fun b68 => ?_)
      refine o_append (sz := 4) (bytes := 32) (news := [(.int _ _), (.int _ _), (.int _ _), (.int _ _)]) 1 rfl Try.underlying50 Try.type68 rfl rfl rfl rfl rfl hcl rfl rfl (Src.slice Try.underlying50 (cels_own 10 rfl rfl) rfl (by simp [Value.oneCell']) (by simp)) (by omega) (fun A69 c70 E71 ho72 hn73 => ?_)
      have ho74 : OS A69 (kl.length + 1) c70 68 4 ((kl ++ [KL.mk 0 n 0 0]).flatMap encKL) E71 := os_snoc ho72 rfl
      clear ho72
      refine o_val rfl rfl rfl (y_nilCheck rfl) ?_
      refine o_val rfl rfl rfl (y_field0 Try.runUnderlying184 rfl Try.sizeOf50 rfl rfl) ?_
      refine o_store (v := (.slice _ _ _)) 0 rfl Try.sizeOf50 rfl rfl rfl rfl ?_
      refine o_nil ?_
      refine s_norm [[(_, .cells [(.slice _ _ _)].toArray 184 (0, 0))], _, [(_, .cells [(.slice _ _ _), (.slice _ _ _), (.slice _ _ _)].toArray 47 (0, 0))], [(_, .cells [(.slice _ _ _), (.slice _ _ _), (.slice _ _ _)].toArray 47 (0, 0))], [(_, .cells [(.slice _ _ _), (.slice _ _ _), (.slice _ _ _)].toArray 47 (0, 0))], [(_, .cells [(.int _ _), (.int _ _), (.slice _ _ _)].toArray 136 (0, 0))], _, [(_, .cells [(.int _ _), (.int _ _), (.slice _ _ _)].toArray 136 (0, 0))], [(_, .cells [(.int _ _), (.int _ _), (.slice _ _ _)].toArray 136 (0, 0))], [(_, .cells [(.int _ _), (.int _ _), (.slice _ _ _)].toArray 136 (0, 0))], [(_, .cells [(.int _ _), (.int _ _), (.int _ _), (.int _ _)].toArray 68 (0, 0))]] rfl ?_
      refine s_forget [(12, (.pointer _)), (13, (.bool _)), (16, (.pointer _)), (17, (.bool _))] ⟨rfl, rfl, rfl, rfl, trivial⟩ (fun _f => ?_)
      refine s_seq ?_
      refine s_region ?_
      refine o_val rfl rfl rfl (y_loads (cs := [_, _, _]) Try.isAgg136 Try.sizeOf136 rfl rfl rfl (cels_own 8 rfl rfl)) ?_
      refine o_val rfl rfl rfl (y_move (v := (.bool _)) rfl) ?_
      refine o_stores (vs := [(.int _ _), (.int _ _), (.slice _ _ _)]) 5 rfl Try.sizeOf136 rfl rfl rfl (by simp [Value.oneCell']) (by simp) ?_
      refine o_val rfl rfl rfl (y_assign (v := (.bool _)) rfl) ?_
      refine o_nil ?_
      refine s_ret ?_
      have hpk : slotP K n (findI wo.its n) (findI wx.its n) (findI wy.its n) = (some cx.d, [KL.mk 0 n 0 0]) := by rw [hfo, hfx, hfy, slotP_not (fun hh => by have := hh.1; simp at this)]; unfold restP; first | (simp [e2]; done) | exact absurd rfl e2 | (simp only [Option.getD_some, Option.getD_none] at e2; simp [e2]; done)
      rw [hfo, hfx, hfy] at hpk
      exact ⟨_, [_, E71, []], resv2 rfl (RV.cells (cs := [_, _, _]) rfl Try.isAgg136 Try.sizeOf136 rfl rfl (cels_own 5 rfl rfl)) (RV.tmp rfl), ⟨cx, true, kl ++ [KL.mk 0 n 0 0], A69, c70, E71, [], rfl, IOK.sub hX orM_left, (by rw [hpk]; rfl), (by rw [hpk]), (by rw [List.length_append]; exact ho74), rfl⟩, (by rw [List.length_append]; exact sub_picks [0, 0, 4] rfl)⟩
  · refine o_val rfl rfl rfl (y_move (v := (.bool _)) rfl) ?_
    refine o_val rfl rfl rfl (y_move (v := (.bool _)) rfl) ?_
    refine o_guard_yes rfl rfl ?_
    refine o_val rfl rfl rfl (y_move (v := (.bool _)) rfl) ?_
    refine o_val rfl rfl rfl (y_pick_t (v := (.bool _)) rfl rfl) ?_
    refine o_val rfl rfl rfl (y_move (v := (.bool _)) rfl) ?_
    refine o_guard_yes rfl rfl ?_
    refine o_val rfl rfl rfl (y_move (v := (.bool _)) rfl) ?_
    refine o_val rfl rfl rfl (y_pick_t (v := (.bool _)) rfl rfl) ?_
    refine o_val rfl rfl rfl (y_move (v := (.bool _)) rfl) ?_
    refine o_guard_yes rfl rfl ?_
    refine o_val rfl rfl rfl (y_field0 Try.runUnderlying136 rfl Try.sizeOf117 rfl rfl) ?_
    refine o_guard_yes rfl rfl ?_
    refine o_val rfl rfl rfl (y_loads (cs := [_, _]) Try.isAgg117 Try.sizeOf117 rfl rfl rfl (cels_own 7 rfl rfl)) ?_
    refine o_guard_yes rfl rfl ?_
    refine o_val rfl rfl rfl (y_field0 Try.runUnderlying136 rfl Try.sizeOf117 rfl rfl) ?_
    refine o_guard_yes rfl rfl ?_
    refine o_val rfl rfl rfl (y_loads (cs := [_, _]) Try.isAgg117 Try.sizeOf117 rfl rfl rfl (cels_own 8 rfl rfl)) ?_
    refine o_guard_yes rfl rfl ?_
    refine o_split rfl rfl rfl (y_eql_ent rfl rfl) (fun p75 => ?_) (fun p76 => ?_)
    · have h1 : co.e = cx.e ∧ co.g = cx.g := p75
      refine o_val rfl rfl rfl (y_pick_t (v := (.bool _)) rfl rfl) ?_
      refine o_val rfl rfl rfl (y_move (v := (.bool _)) rfl) ?_
      refine o_guard_yes rfl rfl ?_
      refine o_val rfl rfl rfl (y_field0 Try.runUnderlying136 rfl Try.sizeOf117 rfl rfl) ?_
      refine o_guard_yes rfl rfl ?_
      refine o_val rfl rfl rfl (y_loads (cs := [_, _]) Try.isAgg117 Try.sizeOf117 rfl rfl rfl (cels_own 7 rfl rfl)) ?_
      refine o_guard_yes rfl rfl ?_
      refine o_val rfl rfl rfl (y_field0 Try.runUnderlying136 rfl Try.sizeOf117 rfl rfl) ?_
      refine o_guard_yes rfl rfl ?_
      refine o_val rfl rfl rfl (y_loads (cs := [_, _]) Try.isAgg117 Try.sizeOf117 rfl rfl rfl (cels_own 9 rfl rfl)) ?_
      refine o_guard_yes rfl rfl ?_
      refine o_val rfl rfl rfl (y_eql_ent rfl rfl) ?_
      refine o_val rfl rfl rfl (y_pick_t (v := (.bool _)) rfl rfl) ?_
      refine o_val rfl rfl rfl (y_assign (v := (.bool _)) rfl) ?_
      refine o_nil ?_
      refine s_forget [(0, (.pointer _)), (1, (.int _ _)), (2, (.int _ _)), (12, (.pointer _)), (13, (.bool _)), (14, (.pointer _)), (15, (.bool _)), (16, (.pointer _)), (17, (.bool _)), (18, (.pointer _)), (19, (.bool _)), (38, (.bool _))] ⟨rfl, rfl, rfl, rfl, rfl, rfl, rfl, rfl, rfl, rfl, rfl, rfl, trivial⟩ (fun _f => ?_)
      refine s_if rfl (fun h77 => ?_) (fun h78 => ?_)
      · have h2 : co.e = cy.e ∧ co.g = cy.g := h77
        refine s_seq ?_
        refine s_region ?_
        refine o_val rfl rfl rfl (y_move (v := (.pointer _)) rfl) ?_
        refine o_val rfl rfl rfl (y_move (v := (.int _ _)) rfl) ?_
        refine o_val rfl rfl rfl (y_loads (cs := [_, _, _]) Try.isAgg136 Try.sizeOf136 rfl rfl rfl (cels_own 7 rfl rfl)) ?_
        refine o_val rfl rfl rfl (y_loads (cs := [_, _, _]) Try.isAgg136 Try.sizeOf136 rfl rfl rfl (cels_own 8 rfl rfl)) ?_
        refine o_val rfl rfl rfl (y_loads (cs := [_, _, _]) Try.isAgg136 Try.sizeOf136 rfl rfl rfl (cels_own 9 rfl rfl)) ?_
        refine o_fn 2 (d := 65) rfl Try.call154 (CompsM_c mb cA cc cE kl hcl K co cx cy (IOK.sub hO (hm0.trans MSub.ext)) (IOK.sub hX (hm0.trans MSub.ext)) (IOK.sub hY (hm0.trans MSub.ext)) (hsl co cx cy hfo hfx hfy) hK hb) rfl ?_
        rintro _ _ ⟨i', vA', vC', vE', iE, iP, rfl, hie, hig, hio, hin, hic, hid, hvk, rfl⟩
        refine o_pull 3 ?_
        refine o_pull 3 ?_
        refine o_fuse ?_
        refine o_stores (vs := [(.int _ _), (.int _ _), (.slice _ _ _)]) 6 rfl Try.sizeOf136 rfl rfl rfl (by simp [Value.oneCell']) (by simp) ?_
        refine o_val rfl rfl rfl (y_assign (v := (.bool _)) rfl) ?_
        refine o_nil ?_
        refine s_norm [_, [(_, .cells [(.slice _ _ _)].toArray 184 (0, 0))], _, [(_, .cells [(.slice _ _ _), (.slice _ _ _), (.slice _ _ _)].toArray 47 (0, 0))], [(_, .cells [(.slice _ _ _), (.slice _ _ _), (.slice _ _ _)].toArray 47 (0, 0))], [(_, .cells [(.slice _ _ _), (.slice _ _ _), (.slice _ _ _)].toArray 47 (0, 0))], [(_, .cells [(.int _ _), (.int _ _), (.slice _ _ _)].toArray 136 (0, 0))], _, [(_, .cells [(.int _ _), (.int _ _), (.slice _ _ _)].toArray 136 (0, 0))], [(_, .cells [(.int _ _), (.int _ _), (.slice _ _ _)].toArray 136 (0, 0))], [(_, .cells [(.int _ _), (.int _ _), (.slice _ _ _)].toArray 136 (0, 0))]] rfl ?_
        refine s_ret ?_
        have hpk : slotP K n (findI wo.its n) (findI wx.its n) (findI wy.its n) = (some (cx.e, cx.g, compsOut cx.e co.cs cx.cs cy.cs K), compsCl cx.e co.cs cx.cs cy.cs K) := by unfold slotP; rw [hfo, hfx, hfy]; exact if_pos ⟨⟨rfl, rfl, rfl⟩, h1, h2⟩
        rw [hfo, hfx, hfy] at hpk
        exact ⟨_, [_, vE', iE ++ iP], resv2 rfl (RV.cells (cs := [_, _, _]) rfl Try.isAgg136 Try.sizeOf136 rfl rfl (cels_own 6 rfl rfl)) (RV.tmp rfl), ⟨i', true, _, vA', vC', vE', _, rfl, ⟨by have := hio.len; rw [flat_len encC_len] at this; omega, hio.2.1, by omega, hio.mem.ms (inG_left.trans orM_right), fun c hc => ((hic c hc).sub inG_right).sub orM_right⟩, (by rw [hpk]; unfold IR.d; rw [hie, hig, hid]; rfl), (by rw [hpk]), hvk, rfl⟩, sub_picks [1, 1, 0] rfl⟩
      · have h2 : ¬ (co.e = cy.e ∧ co.g = cy.g) := h78
        refine s_seq ?_
        refine s_region ?_
        refine o_val rfl rfl rfl (y_move (v := (.bool _)) rfl) ?_
        refine o_val rfl rfl rfl (y_move (v := (.bool _)) rfl) ?_
        refine o_val rfl rfl rfl (y_eql_bool Try.underlying4 rfl rfl) ?_
        refine o_val rfl rfl rfl (y_move (v := (.bool _)) rfl) ?_
        refine o_guard_yes rfl rfl ?_
        refine o_val rfl rfl rfl (y_loads (cs := [_, _, _]) Try.isAgg136 Try.sizeOf136 rfl rfl rfl (cels_own 8 rfl rfl)) ?_
        refine o_guard_yes rfl rfl ?_
        refine o_val rfl rfl rfl (y_loads (cs := [_, _, _]) Try.isAgg136 Try.sizeOf136 rfl rfl rfl (cels_own 9 rfl rfl)) ?_
        refine o_guard_yes rfl rfl ?_
        refine o_fn 0 (d := 73) rfl Try.call155 (SameM_c _ _ (IOK.sub hX (hm0.trans MSub.ext)) (IOK.sub hY (hm0.trans MSub.ext))) rfl ?_
        rintro _ _ ⟨rfl, rfl⟩
        refine o_val rfl rfl rfl (y_pick_t (v := (.bool _)) rfl rfl) ?_
        refine o_val rfl rfl rfl (y_assign (v := (.bool _)) rfl) ?_
        refine o_nil ?_
        refine s_if rfl (fun h79 => ?_) (fun h80 => ?_)
        · have e1 := h79
          refine s_seq ?_
          refine s_region ?_
          refine o_val rfl rfl rfl (y_loads (cs := [_, _, _]) Try.isAgg136 Try.sizeOf136 rfl rfl rfl (cels_own 8 rfl rfl)) ?_
          refine o_val rfl rfl rfl (y_move (v := (.bool _)) rfl) ?_
          refine o_stores (vs := [(.int _ _), (.int _ _), (.slice _ _ _)]) 5 rfl Try.sizeOf136 rfl rfl rfl (by simp [Value.oneCell']) (by simp) ?_
          refine o_val rfl rfl rfl (y_assign (v := (.bool _)) rfl) ?_
          refine o_nil ?_
          refine s_norm [[(_, .cells [(.slice _ _ _)].toArray 184 (0, 0))], _, [(_, .cells [(.slice _ _ _), (.slice _ _ _), (.slice _ _ _)].toArray 47 (0, 0))], [(_, .cells [(.slice _ _ _), (.slice _ _ _), (.slice _ _ _)].toArray 47 (0, 0))], [(_, .cells [(.slice _ _ _), (.slice _ _ _), (.slice _ _ _)].toArray 47 (0, 0))], [(_, .cells [(.int _ _), (.int _ _), (.slice _ _ _)].toArray 136 (0, 0))], _, [(_, .cells [(.int _ _), (.int _ _), (.slice _ _ _)].toArray 136 (0, 0))], [(_, .cells [(.int _ _), (.int _ _), (.slice _ _ _)].toArray 136 (0, 0))], [(_, .cells [(.int _ _), (.int _ _), (.slice _ _ _)].toArray 136 (0, 0))]] rfl ?_
          refine s_ret ?_
          have hpk : slotP K n (findI wo.its n) (findI wx.its n) (findI wy.its n) = (some cx.d, []) := by rw [hfo, hfx, hfy, slotP_not (o := some co) (x := some cx) (y := some cy) (fun hh => h2 hh.2.2)]; unfold restP; first | (simp [e1]; done) | exact absurd rfl e1 | (simp only [Option.getD_some, Option.getD_none] at e1; simp [e1]; done)
          rw [hfo, hfx, hfy] at hpk
          exact ⟨_, [_, cE, []], resv2 rfl (RV.cells (cs := [_, _, _]) rfl Try.isAgg136 Try.sizeOf136 rfl rfl (cels_own 5 rfl rfl)) (RV.tmp rfl), ⟨cx, true, kl, cA, cc, cE, [], rfl, IOK.sub hX orM_left, (by rw [hpk]; rfl), (by rw [hpk]; exact (List.append_nil _).symm), hcl, rfl⟩, sub_picks [0, 0, 4] rfl⟩
        · have e1 := h80
          refine s_seq ?_
          refine s_region ?_
          refine o_val rfl rfl rfl (y_move (v := (.bool _)) rfl) ?_
          refine o_val rfl rfl rfl (y_move (v := (.bool _)) rfl) ?_
          refine o_val rfl rfl rfl (y_eql_bool Try.underlying4 rfl rfl) ?_
          refine o_val rfl rfl rfl (y_move (v := (.bool _)) rfl) ?_
          refine o_guard_yes rfl rfl ?_
          refine o_val rfl rfl rfl (y_loads (cs := [_, _, _]) Try.isAgg136 Try.sizeOf136 rfl rfl rfl (cels_own 8 rfl rfl)) ?_
          refine o_guard_yes rfl rfl ?_
          refine o_val rfl rfl rfl (y_loads (cs := [_, _, _]) Try.isAgg136 Try.sizeOf136 rfl rfl rfl (cels_own 7 rfl rfl)) ?_
          refine o_guard_yes rfl rfl ?_
          refine o_fn 0 (d := 84) rfl Try.call155 (SameM_c _ _ (IOK.sub hX (hm0.trans MSub.ext)) (IOK.sub hO (hm0.trans MSub.ext))) rfl ?_
          rintro _ _ ⟨rfl, rfl⟩
          refine o_val rfl rfl rfl (y_pick_t (v := (.bool _)) rfl rfl) ?_
          refine o_val rfl rfl rfl (y_assign (v := (.bool _)) rfl) ?_
          refine o_nil ?_
          refine s_forget [(0, (.pointer _)), (1, (.int _ _)), (12, (.pointer _)), (13, (.bool _)), (14, (.pointer _)), (15, (.bool _)), (16, (.pointer _)), (17, (.bool _)), (18, (.pointer _)), (19, (.bool _)), (77, (.bool _))] ⟨rfl, rfl, rfl, rfl, rfl, rfl, rfl, rfl, rfl, rfl, rfl, trivial⟩ (fun _f => ?_)
          refine s_if rfl (fun h81 => ?_) (fun h82 => ?_)
          · have e2 := h81
            refine s_seq ?_
            refine s_region ?_
            refine o_val rfl rfl rfl (y_loads (cs := [_, _, _]) Try.isAgg136 Try.sizeOf136 rfl rfl rfl (cels_own 9 rfl rfl)) ?_
            refine o_val rfl rfl rfl (y_move (v := (.bool _)) rfl) ?_
            refine o_stores (vs := [(.int _ _), (.int _ _), (.slice _ _ _)]) 5 rfl Try.sizeOf136 rfl rfl rfl (by simp [Value.oneCell']) (by simp) ?_
            refine o_val rfl rfl rfl (y_assign (v := (.bool _)) rfl) ?_
            refine o_nil ?_
            refine s_norm [[(_, .cells [(.slice _ _ _)].toArray 184 (0, 0))], _, [(_, .cells [(.slice _ _ _), (.slice _ _ _), (.slice _ _ _)].toArray 47 (0, 0))], [(_, .cells [(.slice _ _ _), (.slice _ _ _), (.slice _ _ _)].toArray 47 (0, 0))], [(_, .cells [(.slice _ _ _), (.slice _ _ _), (.slice _ _ _)].toArray 47 (0, 0))], [(_, .cells [(.int _ _), (.int _ _), (.slice _ _ _)].toArray 136 (0, 0))], _, [(_, .cells [(.int _ _), (.int _ _), (.slice _ _ _)].toArray 136 (0, 0))], [(_, .cells [(.int _ _), (.int _ _), (.slice _ _ _)].toArray 136 (0, 0))], [(_, .cells [(.int _ _), (.int _ _), (.slice _ _ _)].toArray 136 (0, 0))]] rfl ?_
            refine s_ret ?_
            have hpk : slotP K n (findI wo.its n) (findI wx.its n) (findI wy.its n) = (some cy.d, []) := by rw [hfo, hfx, hfy, slotP_not (o := some co) (x := some cx) (y := some cy) (fun hh => h2 hh.2.2)]; unfold restP; first | (simp [e1, e2]; done) | exact absurd rfl e1 | exact absurd rfl e2 | (simp only [Option.getD_some, Option.getD_none] at e1 e2; simp [e1, e2]; done)
            rw [hfo, hfx, hfy] at hpk
            exact ⟨_, [_, cE, []], resv2 rfl (RV.cells (cs := [_, _, _]) rfl Try.isAgg136 Try.sizeOf136 rfl rfl (cels_own 5 rfl rfl)) (RV.tmp rfl), ⟨cy, true, kl, cA, cc, cE, [], rfl, IOK.sub hY orM_left, (by rw [hpk]; rfl), (by rw [hpk]; exact (List.append_nil _).symm), hcl, rfl⟩, sub_picks [0, 0, 4] rfl⟩
          · have e2 := h82
            refine s_seq ?_
            refine s_region ?_
            refine o_val rfl rfl rfl (y_move (v := (.bool _)) rfl) ?_
            refine o_val rfl rfl rfl (y_move (v := (.bool _)) rfl) ?_
            refine o_val rfl rfl rfl (y_eql_bool Try.underlying4 rfl rfl) ?_
            refine o_val rfl rfl rfl (y_move (v := (.bool _)) rfl) ?_
            refine o_guard_yes rfl rfl ?_
            refine o_val rfl rfl rfl (y_loads (cs := [_, _, _]) Try.isAgg136 Try.sizeOf136 rfl rfl rfl (cels_own 9 rfl rfl)) ?_
            refine o_guard_yes rfl rfl ?_
            refine o_val rfl rfl rfl (y_loads (cs := [_, _, _]) Try.isAgg136 Try.sizeOf136 rfl rfl rfl (cels_own 7 rfl rfl)) ?_
            refine o_guard_yes rfl rfl ?_
            refine o_fn 0 (d := 95) rfl Try.call155 (SameM_c _ _ (IOK.sub hY (hm0.trans MSub.ext)) (IOK.sub hO (hm0.trans MSub.ext))) rfl ?_
            rintro _ _ ⟨rfl, rfl⟩
            refine o_val rfl rfl rfl (y_pick_t (v := (.bool _)) rfl rfl) ?_
            refine o_val rfl rfl rfl (y_assign (v := (.bool _)) rfl) ?_
            refine o_nil ?_
            refine s_if rfl (fun h83 => ?_) (fun h84 => ?_)
            · have e3 := h83
              refine s_seq ?_
              refine s_region ?_
              refine o_val rfl rfl rfl (y_loads (cs := [_, _, _]) Try.isAgg136 Try.sizeOf136 rfl rfl rfl (cels_own 8 rfl rfl)) ?_
              refine o_val rfl rfl rfl (y_move (v := (.bool _)) rfl) ?_
              refine o_stores (vs := [(.int _ _), (.int _ _), (.slice _ _ _)]) 5 rfl Try.sizeOf136 rfl rfl rfl (by simp [Value.oneCell']) (by simp) ?_
              refine o_val rfl rfl rfl (y_assign (v := (.bool _)) rfl) ?_
              refine o_nil ?_
              refine s_norm [[(_, .cells [(.slice _ _ _)].toArray 184 (0, 0))], _, [(_, .cells [(.slice _ _ _), (.slice _ _ _), (.slice _ _ _)].toArray 47 (0, 0))], [(_, .cells [(.slice _ _ _), (.slice _ _ _), (.slice _ _ _)].toArray 47 (0, 0))], [(_, .cells [(.slice _ _ _), (.slice _ _ _), (.slice _ _ _)].toArray 47 (0, 0))], [(_, .cells [(.int _ _), (.int _ _), (.slice _ _ _)].toArray 136 (0, 0))], _, [(_, .cells [(.int _ _), (.int _ _), (.slice _ _ _)].toArray 136 (0, 0))], [(_, .cells [(.int _ _), (.int _ _), (.slice _ _ _)].toArray 136 (0, 0))], [(_, .cells [(.int _ _), (.int _ _), (.slice _ _ _)].toArray 136 (0, 0))]] rfl ?_
              refine s_ret ?_
              have hpk : slotP K n (findI wo.its n) (findI wx.its n) (findI wy.its n) = (some cx.d, []) := by rw [hfo, hfx, hfy, slotP_not (o := some co) (x := some cx) (y := some cy) (fun hh => h2 hh.2.2)]; unfold restP; first | (simp [e1, e2, e3]; done) | exact absurd rfl e1 | exact absurd rfl e2 | exact absurd rfl e3 | (simp only [Option.getD_some, Option.getD_none] at e1 e2 e3; simp [e1, e2, e3]; done)
              rw [hfo, hfx, hfy] at hpk
              exact ⟨_, [_, cE, []], resv2 rfl (RV.cells (cs := [_, _, _]) rfl Try.isAgg136 Try.sizeOf136 rfl rfl (cels_own 5 rfl rfl)) (RV.tmp rfl), ⟨cx, true, kl, cA, cc, cE, [], rfl, IOK.sub hX orM_left, (by rw [hpk]; rfl), (by rw [hpk]; exact (List.append_nil _).symm), hcl, rfl⟩, sub_picks [0, 0, 4] rfl⟩
            · have e3 := h84
              refine s_skip ?_
              refine s_seq ?_
              refine s_region ?_
              refine o_val rfl rfl rfl (y_move (v := (.pointer _)) rfl) ?_
              refine o_val rfl rfl rfl (y_move (v := (.pointer _)) rfl) ?_
              refine o_val rfl rfl rfl (y_nilCheck rfl) ?_
              refine o_val rfl rfl rfl (y_field0 Try.runUnderlying184 rfl Try.sizeOf50 rfl rfl) ?_
              refine o_val rfl rfl rfl (y_load Try.isAgg50 rfl (cel_own 0 rfl rfl)) ?_
              refine o_val rfl rfl rfl (y_move (v := (.int _ _)) rfl) ?_
              refine o_val rfl rfl rfl (y_build (vs := [(0, .int _ _), (1, .int _ _), (2, .int _ _), (3, .int _ _)]) rfl (SlotM_k0 _ _ _ _)) ?_
              refine o_lit (vs := [(0, .agg #[.int _ _, .int _ _, .int _ _, .int _ _])]) rfl rfl (SlotM_k1 _ _ _ _) (fun b85 => ?_)
              refine o_append (sz := 4) (bytes := 32) (news := [(.int _ _), (.int _ _), (.int _ _), (.int _ _)]) 1 rfl Try.underlying50 Try.type68 rfl rfl rfl rfl rfl hcl rfl rfl (Src.slice Try.underlying50 (cels_own 10 rfl rfl) rfl (by simp [Value.oneCell']) (by simp)) (by omega) (fun A86 c87 E88 ho89 hn90 => ?_)
              have ho91 : OS A86 (kl.length + 1) c87 68 4 ((kl ++ [KL.mk 0 n 0 0]).flatMap encKL) E88 := os_snoc ho89 rfl
              clear ho89
              refine o_val rfl rfl rfl (y_nilCheck rfl) ?_
              refine o_val rfl rfl rfl (y_field0 Try.runUnderlying184 rfl Try.sizeOf50 rfl rfl) ?_
              refine o_store (v := (.slice _ _ _)) 0 rfl Try.sizeOf50 rfl rfl rfl rfl ?_
              refine o_nil ?_
              refine s_norm [[(_, .cells [(.slice _ _ _)].toArray 184 (0, 0))], _, [(_, .cells [(.slice _ _ _), (.slice _ _ _), (.slice _ _ _)].toArray 47 (0, 0))], [(_, .cells [(.slice _ _ _), (.slice _ _ _), (.slice _ _ _)].toArray 47 (0, 0))], [(_, .cells [(.slice _ _ _), (.slice _ _ _), (.slice _ _ _)].toArray 47 (0, 0))], [(_, .cells [(.int _ _), (.int _ _), (.slice _ _ _)].toArray 136 (0, 0))], _, [(_, .cells [(.int _ _), (.int _ _), (.slice _ _ _)].toArray 136 (0, 0))], [(_, .cells [(.int _ _), (.int _ _), (.slice _ _ _)].toArray 136 (0, 0))], [(_, .cells [(.int _ _), (.int _ _), (.slice _ _ _)].toArray 136 (0, 0))], [(_, .cells [(.int _ _), (.int _ _), (.int _ _), (.int _ _)].toArray 68 (0, 0))]] rfl ?_
              refine s_forget [(12, (.pointer _)), (13, (.bool _)), (16, (.pointer _)), (17, (.bool _))] ⟨rfl, rfl, rfl, rfl, trivial⟩ (fun _f => ?_)
              refine s_seq ?_
              refine s_region ?_
              refine o_val rfl rfl rfl (y_loads (cs := [_, _, _]) Try.isAgg136 Try.sizeOf136 rfl rfl rfl (cels_own 8 rfl rfl)) ?_
              refine o_val rfl rfl rfl (y_move (v := (.bool _)) rfl) ?_
              refine o_stores (vs := [(.int _ _), (.int _ _), (.slice _ _ _)]) 5 rfl Try.sizeOf136 rfl rfl rfl (by simp [Value.oneCell']) (by simp) ?_
              refine o_val rfl rfl rfl (y_assign (v := (.bool _)) rfl) ?_
              refine o_nil ?_
              refine s_ret ?_
              have hpk : slotP K n (findI wo.its n) (findI wx.its n) (findI wy.its n) = (some cx.d, [KL.mk 0 n 0 0]) := by rw [hfo, hfx, hfy, slotP_not (o := some co) (x := some cx) (y := some cy) (fun hh => h2 hh.2.2)]; unfold restP; first | (simp [e1, e2, e3]; done) | exact absurd rfl e1 | exact absurd rfl e2 | exact absurd rfl e3 | (simp only [Option.getD_some, Option.getD_none] at e1 e2 e3; simp [e1, e2, e3]; done)
              rw [hfo, hfx, hfy] at hpk
              exact ⟨_, [_, E88, []], resv2 rfl (RV.cells (cs := [_, _, _]) rfl Try.isAgg136 Try.sizeOf136 rfl rfl (cels_own 5 rfl rfl)) (RV.tmp rfl), ⟨cx, true, kl ++ [KL.mk 0 n 0 0], A86, c87, E88, [], rfl, IOK.sub hX orM_left, (by rw [hpk]; rfl), (by rw [hpk]), (by rw [List.length_append]; exact ho91), rfl⟩, (by rw [List.length_append]; exact sub_picks [0, 0, 4] rfl)⟩
    · have h1 : ¬ (co.e = cx.e ∧ co.g = cx.g) := p76
      refine o_val rfl rfl rfl (y_pick_t (v := (.bool _)) rfl rfl) ?_
      refine o_val rfl rfl rfl (y_move (v := (.bool _)) rfl) ?_
      refine o_guard_no rfl rfl rfl rfl rfl ?_
      refine o_guard_no rfl rfl rfl rfl rfl ?_
      refine o_guard_no rfl rfl rfl rfl rfl ?_
      refine o_guard_no rfl rfl rfl rfl rfl ?_
      refine o_guard_no rfl rfl rfl rfl rfl ?_
      refine o_val rfl rfl rfl (y_pick_f (v := (.bool _)) rfl rfl) ?_
      refine o_val rfl rfl rfl (y_assign (v := (.bool _)) rfl) ?_
      refine o_nil ?_
      refine s_forget [(0, (.pointer _)), (1, (.int _ _)), (2, (.int _ _)), (12, (.pointer _)), (13, (.bool _)), (14, (.pointer _)), (15, (.bool _)), (16, (.pointer _)), (17, (.bool _)), (18, (.pointer _)), (19, (.bool _)), (38, (.bool _))] ⟨rfl, rfl, rfl, rfl, rfl, rfl, rfl, rfl, rfl, rfl, rfl, rfl, trivial⟩ (fun _f => ?_)
      refine s_else rfl ?_
      refine s_seq ?_
      refine s_region ?_
      refine o_val rfl rfl rfl (y_move (v := (.bool _)) rfl) ?_
      refine o_val rfl rfl rfl (y_move (v := (.bool _)) rfl) ?_
      refine o_val rfl rfl rfl (y_eql_bool Try.underlying4 rfl rfl) ?_
      refine o_val rfl rfl rfl (y_move (v := (.bool _)) rfl) ?_
      refine o_guard_yes rfl rfl ?_
      refine o_val rfl rfl rfl (y_loads (cs := [_, _, _]) Try.isAgg136 Try.sizeOf136 rfl rfl rfl (cels_own 8 rfl rfl)) ?_
      refine o_guard_yes rfl rfl ?_
      refine o_val rfl rfl rfl (y_loads (cs := [_, _, _]) Try.isAgg136 Try.sizeOf136 rfl rfl rfl (cels_own 9 rfl rfl)) ?_
      refine o_guard_yes rfl rfl ?_
      refine o_fn 0 (d := 73) rfl Try.call155 (SameM_c _ _ (IOK.sub hX (hm0.trans MSub.ext)) (IOK.sub hY (hm0.trans MSub.ext))) rfl ?_
      rintro _ _ ⟨rfl, rfl⟩
      refine o_val rfl rfl rfl (y_pick_t (v := (.bool _)) rfl rfl) ?_
      refine o_val rfl rfl rfl (y_assign (v := (.bool _)) rfl) ?_
      refine o_nil ?_
      refine s_if rfl (fun h92 => ?_) (fun h93 => ?_)
      · have e1 := h92
        refine s_seq ?_
        refine s_region ?_
        refine o_val rfl rfl rfl (y_loads (cs := [_, _, _]) Try.isAgg136 Try.sizeOf136 rfl rfl rfl (cels_own 8 rfl rfl)) ?_
        refine o_val rfl rfl rfl (y_move (v := (.bool _)) rfl) ?_
        refine o_stores (vs := [(.int _ _), (.int _ _), (.slice _ _ _)]) 5 rfl Try.sizeOf136 rfl rfl rfl (by simp [Value.oneCell']) (by simp) ?_
        refine o_val rfl rfl rfl (y_assign (v := (.bool _)) rfl) ?_
        refine o_nil ?_
        refine s_norm [[(_, .cells [(.slice _ _ _)].toArray 184 (0, 0))], _, [(_, .cells [(.slice _ _ _), (.slice _ _ _), (.slice _ _ _)].toArray 47 (0, 0))], [(_, .cells [(.slice _ _ _), (.slice _ _ _), (.slice _ _ _)].toArray 47 (0, 0))], [(_, .cells [(.slice _ _ _), (.slice _ _ _), (.slice _ _ _)].toArray 47 (0, 0))], [(_, .cells [(.int _ _), (.int _ _), (.slice _ _ _)].toArray 136 (0, 0))], _, [(_, .cells [(.int _ _), (.int _ _), (.slice _ _ _)].toArray 136 (0, 0))], [(_, .cells [(.int _ _), (.int _ _), (.slice _ _ _)].toArray 136 (0, 0))], [(_, .cells [(.int _ _), (.int _ _), (.slice _ _ _)].toArray 136 (0, 0))]] rfl ?_
        refine s_ret ?_
        have hpk : slotP K n (findI wo.its n) (findI wx.its n) (findI wy.its n) = (some cx.d, []) := by rw [hfo, hfx, hfy, slotP_not (o := some co) (x := some cx) (y := some cy) (fun hh => h1 hh.2.1)]; unfold restP; first | (simp [e1]; done) | exact absurd rfl e1 | (simp only [Option.getD_some, Option.getD_none] at e1; simp [e1]; done)
        rw [hfo, hfx, hfy] at hpk
        exact ⟨_, [_, cE, []], resv2 rfl (RV.cells (cs := [_, _, _]) rfl Try.isAgg136 Try.sizeOf136 rfl rfl (cels_own 5 rfl rfl)) (RV.tmp rfl), ⟨cx, true, kl, cA, cc, cE, [], rfl, IOK.sub hX orM_left, (by rw [hpk]; rfl), (by rw [hpk]; exact (List.append_nil _).symm), hcl, rfl⟩, sub_picks [0, 0, 4] rfl⟩
      · have e1 := h93
        refine s_seq ?_
        refine s_region ?_
        refine o_val rfl rfl rfl (y_move (v := (.bool _)) rfl) ?_
        refine o_val rfl rfl rfl (y_move (v := (.bool _)) rfl) ?_
        refine o_val rfl rfl rfl (y_eql_bool Try.underlying4 rfl rfl) ?_
        refine o_val rfl rfl rfl (y_move (v := (.bool _)) rfl) ?_
        refine o_guard_yes rfl rfl ?_
        refine o_val rfl rfl rfl (y_loads (cs := [_, _, _]) Try.isAgg136 Try.sizeOf136 rfl rfl rfl (cels_own 8 rfl rfl)) ?_
        refine o_guard_yes rfl rfl ?_
        refine o_val rfl rfl rfl (y_loads (cs := [_, _, _]) Try.isAgg136 Try.sizeOf136 rfl rfl rfl (cels_own 7 rfl rfl)) ?_
        refine o_guard_yes rfl rfl ?_
        refine o_fn 0 (d := 84) rfl Try.call155 (SameM_c _ _ (IOK.sub hX (hm0.trans MSub.ext)) (IOK.sub hO (hm0.trans MSub.ext))) rfl ?_
        rintro _ _ ⟨rfl, rfl⟩
        refine o_val rfl rfl rfl (y_pick_t (v := (.bool _)) rfl rfl) ?_
        refine o_val rfl rfl rfl (y_assign (v := (.bool _)) rfl) ?_
        refine o_nil ?_
        refine s_forget [(0, (.pointer _)), (1, (.int _ _)), (12, (.pointer _)), (13, (.bool _)), (14, (.pointer _)), (15, (.bool _)), (16, (.pointer _)), (17, (.bool _)), (18, (.pointer _)), (19, (.bool _)), (77, (.bool _))] ⟨rfl, rfl, rfl, rfl, rfl, rfl, rfl, rfl, rfl, rfl, rfl, trivial⟩ (fun _f => ?_)
        refine s_if rfl (fun h94 => ?_) (fun h95 => ?_)
        · have e2 := h94
          refine s_seq ?_
          refine s_region ?_
          refine o_val rfl rfl rfl (y_loads (cs := [_, _, _]) Try.isAgg136 Try.sizeOf136 rfl rfl rfl (cels_own 9 rfl rfl)) ?_
          refine o_val rfl rfl rfl (y_move (v := (.bool _)) rfl) ?_
          refine o_stores (vs := [(.int _ _), (.int _ _), (.slice _ _ _)]) 5 rfl Try.sizeOf136 rfl rfl rfl (by simp [Value.oneCell']) (by simp) ?_
          refine o_val rfl rfl rfl (y_assign (v := (.bool _)) rfl) ?_
          refine o_nil ?_
          refine s_norm [[(_, .cells [(.slice _ _ _)].toArray 184 (0, 0))], _, [(_, .cells [(.slice _ _ _), (.slice _ _ _), (.slice _ _ _)].toArray 47 (0, 0))], [(_, .cells [(.slice _ _ _), (.slice _ _ _), (.slice _ _ _)].toArray 47 (0, 0))], [(_, .cells [(.slice _ _ _), (.slice _ _ _), (.slice _ _ _)].toArray 47 (0, 0))], [(_, .cells [(.int _ _), (.int _ _), (.slice _ _ _)].toArray 136 (0, 0))], _, [(_, .cells [(.int _ _), (.int _ _), (.slice _ _ _)].toArray 136 (0, 0))], [(_, .cells [(.int _ _), (.int _ _), (.slice _ _ _)].toArray 136 (0, 0))], [(_, .cells [(.int _ _), (.int _ _), (.slice _ _ _)].toArray 136 (0, 0))]] rfl ?_
          refine s_ret ?_
          have hpk : slotP K n (findI wo.its n) (findI wx.its n) (findI wy.its n) = (some cy.d, []) := by rw [hfo, hfx, hfy, slotP_not (o := some co) (x := some cx) (y := some cy) (fun hh => h1 hh.2.1)]; unfold restP; first | (simp [e1, e2]; done) | exact absurd rfl e1 | exact absurd rfl e2 | (simp only [Option.getD_some, Option.getD_none] at e1 e2; simp [e1, e2]; done)
          rw [hfo, hfx, hfy] at hpk
          exact ⟨_, [_, cE, []], resv2 rfl (RV.cells (cs := [_, _, _]) rfl Try.isAgg136 Try.sizeOf136 rfl rfl (cels_own 5 rfl rfl)) (RV.tmp rfl), ⟨cy, true, kl, cA, cc, cE, [], rfl, IOK.sub hY orM_left, (by rw [hpk]; rfl), (by rw [hpk]; exact (List.append_nil _).symm), hcl, rfl⟩, sub_picks [0, 0, 4] rfl⟩
        · have e2 := h95
          refine s_seq ?_
          refine s_region ?_
          refine o_val rfl rfl rfl (y_move (v := (.bool _)) rfl) ?_
          refine o_val rfl rfl rfl (y_move (v := (.bool _)) rfl) ?_
          refine o_val rfl rfl rfl (y_eql_bool Try.underlying4 rfl rfl) ?_
          refine o_val rfl rfl rfl (y_move (v := (.bool _)) rfl) ?_
          refine o_guard_yes rfl rfl ?_
          refine o_val rfl rfl rfl (y_loads (cs := [_, _, _]) Try.isAgg136 Try.sizeOf136 rfl rfl rfl (cels_own 9 rfl rfl)) ?_
          refine o_guard_yes rfl rfl ?_
          refine o_val rfl rfl rfl (y_loads (cs := [_, _, _]) Try.isAgg136 Try.sizeOf136 rfl rfl rfl (cels_own 7 rfl rfl)) ?_
          refine o_guard_yes rfl rfl ?_
          refine o_fn 0 (d := 95) rfl Try.call155 (SameM_c _ _ (IOK.sub hY (hm0.trans MSub.ext)) (IOK.sub hO (hm0.trans MSub.ext))) rfl ?_
          rintro _ _ ⟨rfl, rfl⟩
          refine o_val rfl rfl rfl (y_pick_t (v := (.bool _)) rfl rfl) ?_
          refine o_val rfl rfl rfl (y_assign (v := (.bool _)) rfl) ?_
          refine o_nil ?_
          refine s_if rfl (fun h96 => ?_) (fun h97 => ?_)
          · have e3 := h96
            refine s_seq ?_
            refine s_region ?_
            refine o_val rfl rfl rfl (y_loads (cs := [_, _, _]) Try.isAgg136 Try.sizeOf136 rfl rfl rfl (cels_own 8 rfl rfl)) ?_
            refine o_val rfl rfl rfl (y_move (v := (.bool _)) rfl) ?_
            refine o_stores (vs := [(.int _ _), (.int _ _), (.slice _ _ _)]) 5 rfl Try.sizeOf136 rfl rfl rfl (by simp [Value.oneCell']) (by simp) ?_
            refine o_val rfl rfl rfl (y_assign (v := (.bool _)) rfl) ?_
            refine o_nil ?_
            refine s_norm [[(_, .cells [(.slice _ _ _)].toArray 184 (0, 0))], _, [(_, .cells [(.slice _ _ _), (.slice _ _ _), (.slice _ _ _)].toArray 47 (0, 0))], [(_, .cells [(.slice _ _ _), (.slice _ _ _), (.slice _ _ _)].toArray 47 (0, 0))], [(_, .cells [(.slice _ _ _), (.slice _ _ _), (.slice _ _ _)].toArray 47 (0, 0))], [(_, .cells [(.int _ _), (.int _ _), (.slice _ _ _)].toArray 136 (0, 0))], _, [(_, .cells [(.int _ _), (.int _ _), (.slice _ _ _)].toArray 136 (0, 0))], [(_, .cells [(.int _ _), (.int _ _), (.slice _ _ _)].toArray 136 (0, 0))], [(_, .cells [(.int _ _), (.int _ _), (.slice _ _ _)].toArray 136 (0, 0))]] rfl ?_
            refine s_ret ?_
            have hpk : slotP K n (findI wo.its n) (findI wx.its n) (findI wy.its n) = (some cx.d, []) := by rw [hfo, hfx, hfy, slotP_not (o := some co) (x := some cx) (y := some cy) (fun hh => h1 hh.2.1)]; unfold restP; first | (simp [e1, e2, e3]; done) | exact absurd rfl e1 | exact absurd rfl e2 | exact absurd rfl e3 | (simp only [Option.getD_some, Option.getD_none] at e1 e2 e3; simp [e1, e2, e3]; done)
            rw [hfo, hfx, hfy] at hpk
            exact ⟨_, [_, cE, []], resv2 rfl (RV.cells (cs := [_, _, _]) rfl Try.isAgg136 Try.sizeOf136 rfl rfl (cels_own 5 rfl rfl)) (RV.tmp rfl), ⟨cx, true, kl, cA, cc, cE, [], rfl, IOK.sub hX orM_left, (by rw [hpk]; rfl), (by rw [hpk]; exact (List.append_nil _).symm), hcl, rfl⟩, sub_picks [0, 0, 4] rfl⟩
          · have e3 := h97
            refine s_skip ?_
            refine s_seq ?_
            refine s_region ?_
            refine o_val rfl rfl rfl (y_move (v := (.pointer _)) rfl) ?_
            refine o_val rfl rfl rfl (y_move (v := (.pointer _)) rfl) ?_
            refine o_val rfl rfl rfl (y_nilCheck rfl) ?_
            refine o_val rfl rfl rfl (y_field0 Try.runUnderlying184 rfl Try.sizeOf50 rfl rfl) ?_
            refine o_val rfl rfl rfl (y_load Try.isAgg50 rfl (cel_own 0 rfl rfl)) ?_
            refine o_val rfl rfl rfl (y_move (v := (.int _ _)) rfl) ?_
            refine o_val rfl rfl rfl (y_build (vs := [(0, .int _ _), (1, .int _ _), (2, .int _ _), (3, .int _ _)]) rfl (SlotM_k0 _ _ _ _)) ?_
            refine o_lit (vs := [(0, .agg #[.int _ _, .int _ _, .int _ _, .int _ _])]) rfl rfl (SlotM_k1 _ _ _ _) (fun b98 => ?_)
            refine o_append (sz := 4) (bytes := 32) (news := [(.int _ _), (.int _ _), (.int _ _), (.int _ _)]) 1 rfl Try.underlying50 Try.type68 rfl rfl rfl rfl rfl hcl rfl rfl (Src.slice Try.underlying50 (cels_own 10 rfl rfl) rfl (by simp [Value.oneCell']) (by simp)) (by omega) (fun A99 c100 E101 ho102 hn103 => ?_)
            have ho104 : OS A99 (kl.length + 1) c100 68 4 ((kl ++ [KL.mk 0 n 0 0]).flatMap encKL) E101 := os_snoc ho102 rfl
            clear ho102
            refine o_val rfl rfl rfl (y_nilCheck rfl) ?_
            refine o_val rfl rfl rfl (y_field0 Try.runUnderlying184 rfl Try.sizeOf50 rfl rfl) ?_
            refine o_store (v := (.slice _ _ _)) 0 rfl Try.sizeOf50 rfl rfl rfl rfl ?_
            refine o_nil ?_
            refine s_norm [[(_, .cells [(.slice _ _ _)].toArray 184 (0, 0))], _, [(_, .cells [(.slice _ _ _), (.slice _ _ _), (.slice _ _ _)].toArray 47 (0, 0))], [(_, .cells [(.slice _ _ _), (.slice _ _ _), (.slice _ _ _)].toArray 47 (0, 0))], [(_, .cells [(.slice _ _ _), (.slice _ _ _), (.slice _ _ _)].toArray 47 (0, 0))], [(_, .cells [(.int _ _), (.int _ _), (.slice _ _ _)].toArray 136 (0, 0))], _, [(_, .cells [(.int _ _), (.int _ _), (.slice _ _ _)].toArray 136 (0, 0))], [(_, .cells [(.int _ _), (.int _ _), (.slice _ _ _)].toArray 136 (0, 0))], [(_, .cells [(.int _ _), (.int _ _), (.slice _ _ _)].toArray 136 (0, 0))], [(_, .cells [(.int _ _), (.int _ _), (.int _ _), (.int _ _)].toArray 68 (0, 0))]] rfl ?_
            refine s_forget [(12, (.pointer _)), (13, (.bool _)), (16, (.pointer _)), (17, (.bool _))] ⟨rfl, rfl, rfl, rfl, trivial⟩ (fun _f => ?_)
            refine s_seq ?_
            refine s_region ?_
            refine o_val rfl rfl rfl (y_loads (cs := [_, _, _]) Try.isAgg136 Try.sizeOf136 rfl rfl rfl (cels_own 8 rfl rfl)) ?_
            refine o_val rfl rfl rfl (y_move (v := (.bool _)) rfl) ?_
            refine o_stores (vs := [(.int _ _), (.int _ _), (.slice _ _ _)]) 5 rfl Try.sizeOf136 rfl rfl rfl (by simp [Value.oneCell']) (by simp) ?_
            refine o_val rfl rfl rfl (y_assign (v := (.bool _)) rfl) ?_
            refine o_nil ?_
            refine s_ret ?_
            have hpk : slotP K n (findI wo.its n) (findI wx.its n) (findI wy.its n) = (some cx.d, [KL.mk 0 n 0 0]) := by rw [hfo, hfx, hfy, slotP_not (o := some co) (x := some cx) (y := some cy) (fun hh => h1 hh.2.1)]; unfold restP; first | (simp [e1, e2, e3]; done) | exact absurd rfl e1 | exact absurd rfl e2 | exact absurd rfl e3 | (simp only [Option.getD_some, Option.getD_none] at e1 e2 e3; simp [e1, e2, e3]; done)
            rw [hfo, hfx, hfy] at hpk
            exact ⟨_, [_, E101, []], resv2 rfl (RV.cells (cs := [_, _, _]) rfl Try.isAgg136 Try.sizeOf136 rfl rfl (cels_own 5 rfl rfl)) (RV.tmp rfl), ⟨cx, true, kl ++ [KL.mk 0 n 0 0], A99, c100, E101, [], rfl, IOK.sub hX orM_left, (by rw [hpk]; rfl), (by rw [hpk]), (by rw [List.length_append]; exact ho104), rfl⟩, (by rw [List.length_append]; exact sub_picks [0, 0, 4] rfl)⟩

end Go.Proofs.Ytacmbiohjiogiaa.K
