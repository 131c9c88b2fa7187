/- Walks over the package merge: worlds merged. No condition beyond what each statement names. -/
import Derived.Test.YtacmbiohjiogiaaProg
import Derived.Test.YtacmbiohjiogiaaK17
import Derived.Test.YtacmbiohjiogiaaM1
import Derived.Test.YtacmbiohjiogiaaW1
import Derived.Test.YtacmbiohjiogiaaW2
import Derived.Test.YtacmbiohjiogiaaW3
import Derived.Test.YtacmbiohjiogiaaW4
import Derived.Test.YtacmbiohjiogiaaW7
import Derived.Test.YtacmbiohjiogiaaW8
import Derived.Test.YtacmbiohjiogiaaX1
import Derived.Test.YtacmbiohjiogiaaX2
import Derived.Test.YtacmbiohjiogiaaX3
import Derived.Test.YtacmbiohjiogiaaX4
import Derived.Test.YtacmbiohjiogiaaX5
set_option linter.unusedVariables false
set_option linter.unusedSimpArgs false
set_option maxRecDepth 100000
namespace Go.Proofs.Ytacmbiohjiogiaa.K
open Go.RowKit

theorem orM_mono {V W W' : Mem} (h : MSub W W') : MSub (orM V W) (orM V W') := fun b o hb => hb.elim .inl fun hb => .inr (h b o hb)
def errAt (wo wx wy : WR) : Nat → Int
  | 0 => wErr wo.ks wo.gs wo.its
  | 1 => wErr wx.ks wx.gs wx.its
  | _ => wErr wy.ks wy.gs wy.its
def sameAt (wo wx wy : WR) : Nat → Prop
  | 0 => wo.ks.map KR.d = wx.ks.map KR.d
  | _ => wo.ks.map KR.d = wy.ks.map KR.d
/-- The number of a merge's fault. -/
def threeErr (wo wx wy : WR) : Int :=
  if errAt wo wx wy 0 ≠ 0 then errAt wo wx wy 0 else if errAt wo wx wy 1 ≠ 0 then errAt wo wx wy 1 else if errAt wo wx wy 2 ≠ 0 then errAt wo wx wy 2
  else if wo.ks.map KR.d = wx.ks.map KR.d ∧ wo.ks.map KR.d = wy.ks.map KR.d then 0 else 8
def mergeAt (K : Nat) (wo wx wy : WR) (i : Nat) : Option (Int × Int × List (Int × List Int)) × List KL := slotP K ((i : Nat) : Int) (findI wo.its ((i : Nat) : Int)) (findI wx.its ((i : Nat) : Int)) (findI wy.its ((i : Nat) : Int))
def stepG (m : Int) (gs : List Int) (i : Nat) : Int := if i < gs.length then max m (gs.getD i 0) else m
def gTo (wo wx wy : WR) (i : Nat) : Nat → Int
  | 0 => 0
  | 1 => stepG 0 wx.gs i
  | 2 => stepG (stepG 0 wx.gs i) wy.gs i
  | _ => stepG (stepG (stepG 0 wx.gs i) wy.gs i) wo.gs i
def genAt (K : Nat) (wo wx wy : WR) (i : Nat) : Int := match (mergeAt K wo wx wy i).1 with | some d => d.2.1 | none => gTo wo wx wy i 3
def mIts (K : Nat) (wo wx wy : WR) : Nat → List (Int × Int × List (Int × List Int))
  | 0 => []
  | i + 1 => mIts K wo wx wy i ++ (mergeAt K wo wx wy i).1.toList
def mGs (K : Nat) (wo wx wy : WR) : Nat → List Int
  | 0 => []
  | i + 1 => mGs K wo wx wy i ++ [genAt K wo wx wy i]
def mCl (K : Nat) (wo wx wy : WR) : Nat → List KL
  | 0 => []
  | i + 1 => mCl K wo wx wy i ++ (mergeAt K wo wx wy i).2
structure LX6 where
  i : Nat
  gs : List Int
  gA : Option Addr
  gC : Nat
  gE : Grp
  its : List IR
  iA : Option Addr
  iC : Nat
  iE : Grp
  P : Grp
  kl : List KL
  A : Option Addr
  C : Nat
  cE : Grp

theorem Three_k0 (v0x0A : Option Addr) (v0x0n : Nat) (v0x0c : Nat) (v0x1A : Option Addr) (v0x1n : Nat) (v0x1c : Nat) (v0x2A : Option Addr) (v0x2n : Nat) (v0x2c : Nat) (v1x0A : Option Addr) (v1x0n : Nat) (v1x0c : Nat) (v1x1A : Option Addr) (v1x1n : Nat) (v1x1c : Nat) (v1x2A : Option Addr) (v1x2n : Nat) (v1x2c : Nat) (v2x0A : Option Addr) (v2x0n : Nat) (v2x0c : Nat) (v2x1A : Option Addr) (v2x1n : Nat) (v2x1c : Nat) (v2x2A : Option Addr) (v2x2n : Nat) (v2x2c : Nat) (w : World) : (Instr.buildSlice 53 3 ([(0, (.agg #[(.slice v0x0A v0x0n v0x0c), (.slice v0x1A v0x1n v0x1c), (.slice v0x2A v0x2n v0x2c)])), (1, (.agg #[(.slice v1x0A v1x0n v1x0c), (.slice v1x1A v1x1n v1x1c), (.slice v1x2A v1x2n v1x2c)])), (2, (.agg #[(.slice v2x0A v2x0n v2x0c), (.slice v2x1A v2x1n v2x1c), (.slice v2x2A v2x2n v2x2c)]))] : List (Nat × Value)).toArray).run Try.prog w = .ok (.slice (some ⟨w.heap.size, 0, none⟩) 3 3) { w with heap := w.heap.push (.cells ([.slice v0x0A v0x0n v0x0c, .slice v0x1A v0x1n v0x1c, .slice v0x2A v0x2n v0x2c, .slice v1x0A v1x0n v1x0c, .slice v1x1A v1x1n v1x1c, .slice v1x2A v1x2n v1x2c, .slice v2x0A v2x0n v2x0c, .slice v2x1A v2x1n v2x1c, .slice v2x2A v2x2n v2x2c] : List Value).toArray 47 (0, 0)) } := by kernel_rfl
theorem Three_k1 (w : World) : (Instr.build 47 ([] : List (Nat × Value)).toArray).run Try.prog w = .ok (.agg #[.slice none 0 0, .slice none 0 0, .slice none 0 0]) w := by kernel_rfl
theorem Three_k2 (v0x0A : Option Addr) (v0x0n : Nat) (v0x0c : Nat) (v0x1A : Option Addr) (v0x1n : Nat) (v0x1c : Nat) (v0x2A : Option Addr) (v0x2n : Nat) (v0x2c : Nat) (v1x0A : Option Addr) (v1x0n : Nat) (v1x0c : Nat) (v1x1A : Option Addr) (v1x1n : Nat) (v1x1c : Nat) (v1x2A : Option Addr) (v1x2n : Nat) (v1x2c : Nat) (w : World) : (Instr.buildSlice 53 2 ([(0, (.agg #[(.slice v0x0A v0x0n v0x0c), (.slice v0x1A v0x1n v0x1c), (.slice v0x2A v0x2n v0x2c)])), (1, (.agg #[(.slice v1x0A v1x0n v1x0c), (.slice v1x1A v1x1n v1x1c), (.slice v1x2A v1x2n v1x2c)]))] : List (Nat × Value)).toArray).run Try.prog w = .ok (.slice (some ⟨w.heap.size, 0, none⟩) 2 2) { w with heap := w.heap.push (.cells ([.slice v0x0A v0x0n v0x0c, .slice v0x1A v0x1n v0x1c, .slice v0x2A v0x2n v0x2c, .slice v1x0A v1x0n v1x0c, .slice v1x1A v1x1n v1x1c, .slice v1x2A v1x2n v1x2c] : List Value).toArray 47 (0, 0)) } := by kernel_rfl
theorem Three_k3 (w : World) : (Instr.build 184 ([] : List (Nat × Value)).toArray).run Try.prog w = .ok (.agg #[.slice none 0 0]) w := by kernel_rfl
theorem Three_k4 (v0A : Option Addr) (v0n : Nat) (v0c : Nat) (w : World) : (Instr.build 47 ([(0, (.slice v0A v0n v0c))] : List (Nat × Value)).toArray).run Try.prog w = .ok (.agg #[.slice v0A v0n v0c, .slice none 0 0, .slice none 0 0]) w := by kernel_rfl
theorem Three_k5 (v0x0 : Int) (v0x1 : Int) (v0x2A : Option Addr) (v0x2n : Nat) (v0x2c : Nat) (w : World) : (Instr.buildSlice 45 1 ([(0, (.agg #[(.int .i64 v0x0), (.int .i64 v0x1), (.slice v0x2A v0x2n v0x2c)]))] : List (Nat × Value)).toArray).run Try.prog w = .ok (.slice (some ⟨w.heap.size, 0, none⟩) 1 1) { w with heap := w.heap.push (.cells ([.int .i64 v0x0, .int .i64 v0x1, .slice v0x2A v0x2n v0x2c] : List Value).toArray 136 (0, 0)) } := by kernel_rfl
theorem Three_k6 (v0 : Int) (w : World) : (Instr.buildSlice 22 1 ([(0, (.int .i64 v0))] : List (Nat × Value)).toArray).run Try.prog w = .ok (.slice (some ⟨w.heap.size, 0, none⟩) 1 1) { w with heap := w.heap.push (.cells ([.int .i64 v0] : List Value).toArray 3 (0, 0)) } := by kernel_rfl
theorem Three_c {V : Mem} (wo wx wy : WR) (hwo : WOK V wo) (hwx : WOK V wx) (hwy : WOK V wy) : CallS Try.prog 25 [.agg #[.slice wo.kA wo.kn wo.kc, .slice wo.gA wo.gn wo.gc, .slice wo.iA wo.iN wo.iC], .agg #[.slice wx.kA wx.kn wx.kc, .slice wx.gA wx.gn wx.gc, .slice wx.iA wx.iN wx.iC], .agg #[.slice wy.kA wy.kn wy.kc, .slice wy.gA wy.gn wy.gc, .slice wy.iA wy.iN wy.iC]].toArray V [] (fun r L' => (threeErr wo wx wy ≠ 0 ∧ r = .tuple #[.agg #[.slice none 0 0, .slice none 0 0, .slice none 0 0], .slice none 0 0, .int .i64 (threeErr wo wx wy)] ∧ L' = []) ∨ (threeErr wo wx wy = 0 ∧ ∃ (w' : WR) (KE KP GE IE CE VP : Grp) (kl : List KL) (A' : Option Addr) (C' : Nat) (E' : Grp), r = .tuple #[.agg #[.slice w'.kA w'.kn w'.kc, .slice w'.gA w'.gn w'.gc, .slice w'.iA w'.iN w'.iC], .slice A' kl.length C', .int .i64 0] ∧ OS w'.kA w'.kn w'.kc 58 2 ((w'.ks).flatMap encK) KE ∧ (∀ x ∈ w'.ks, KOK (inG KP) x) ∧ OS w'.gA w'.gn w'.gc 3 1 ((w'.gs).map (.int .i64)) GE ∧ OS w'.iA w'.iN w'.iC 136 3 ((w'.its).flatMap encIt) IE ∧ MCs 155 w'.its CE ∧ (∀ x ∈ w'.its, ∀ y ∈ x.cs, COK (inG VP) y) ∧ w'.ks.map KR.d = wo.ks.map KR.d ∧ w'.gs = mGs wo.kn wo wx wy (max (max wx.gn wy.gn) wo.gn) ∧ w'.its.map IR.d = mIts wo.kn wo wx wy (max (max wx.gn wy.gn) wo.gn) ∧ kl = mCl wo.kn wo wx wy (max (max wx.gn wy.gn) wo.gn) ∧ OS A' kl.length C' 68 4 ((kl).flatMap encKL) E' ∧ L' = [KE, KP, GE, IE, CE, VP, E'])) := by
  refine callS Try.func25 rfl rfl (fun w0 => ?_)
  refine s_seq ?_
  refine s_region ?_
  refine o_box (v := (.agg #[(.slice _ _ _), (.slice _ _ _), (.slice _ _ _)])) rfl rfl rfl (fun b1 => ?_)
  refine o_box (v := (.agg #[(.slice _ _ _), (.slice _ _ _), (.slice _ _ _)])) rfl rfl rfl (fun b2 => ?_)
  refine o_box (v := (.agg #[(.slice _ _ _), (.slice _ _ _), (.slice _ _ _)])) rfl rfl rfl (fun b3 => ?_)
  refine o_alloc rfl Try.zeroValue47 rfl (fun b4 => ?_)
  refine o_val rfl rfl rfl (y_assign (v := (.slice _ _ _)) rfl) ?_
  refine o_val rfl rfl rfl (y_assign (v := (.int _ _)) rfl) ?_
  refine o_nil ?_
  refine s_seq ?_
  refine s_seq ?_
  refine s_region ?_
  refine o_val rfl rfl rfl (y_loads (cs := [_, _, _]) Try.isAgg47 Try.sizeOf47 rfl rfl rfl (cels_own 0 rfl rfl)) ?_
  refine o_val rfl rfl rfl (y_loads (cs := [_, _, _]) Try.isAgg47 Try.sizeOf47 rfl rfl rfl (cels_own 1 rfl rfl)) ?_
  refine o_val rfl rfl rfl (y_loads (cs := [_, _, _]) Try.isAgg47 Try.sizeOf47 rfl rfl rfl (cels_own 2 rfl rfl)) ?_
  refine o_lit (vs := [(0, .agg #[.slice _ _ _, .slice _ _ _, .slice _ _ _]), (1, .agg #[.slice _ _ _, .slice _ _ _, .slice _ _ _]), (2, .agg #[.slice _ _ _, .slice _ _ _, .slice _ _ _])]) rfl rfl (Three_k0 _ _ _ _ _ _ _ _ _ _ _ _ _ _ _ _ _ _ _ _ _ _ _ _ _ _ _) (fun b5 => ?_)
  refine o_val rfl rfl rfl (y_len Try.runUnderlying53 rfl) ?_
  refine o_val rfl rfl rfl (y_move (v := (.int _ _)) rfl) ?_
  refine o_nil ?_
  refine s_block ?_
  refine s_loopK (γ := Nat) [(3, (.pointer _)), (4, (.pointer _)), (5, (.pointer _)), (6, (.pointer _)), (25, (.slice _ _ _)), (26, (.int _ _))] [_, _, _, _, _] (fun v => [(27, .int .i64 v)]) (fun v => []) (fun v => v ≤ 3 ∧ ∀ j, j < v → errAt wo wx wy j = 0) (fun v => 3 - v) (0) ⟨rfl, rfl, rfl, rfl, rfl, rfl, rfl, trivial⟩ (sub_picks [0, 0, 0, 0, 0] rfl) ?_ ?_
  · exact ⟨Nat.zero_le _, fun j hj => absurd hj (Nat.not_lt_zero j)⟩
  intro v _f hI
  obtain ⟨hv3, hall⟩ := hI
  refine s_seq ?_
  refine s_region ?_
  refine o_val rfl rfl rfl (y_lss rfl rfl) ?_
  refine o_nil ?_
  refine s_seq ?_
  refine s_if rfl (fun h6 => ?_) (fun h7 => ?_)
  · refine s_skip ?_
    refine s_seq ?_
    refine s_block ?_
    refine s_seq ?_
    refine s_region ?_
    rcases (show v = 0 ∨ v = 1 ∨ v = 2 by omega) with hvi | hvi | hvi
    · have hvi' := hvi
      refine o_val rfl rfl rfl (y_lit_z (q := 0) Try.runUnderlying53 Try.sizeOf47 rfl rfl (by rw [hvi]; rfl) (by rw [hvi]; rfl)) ?_
      refine o_val rfl rfl rfl (y_loads (cs := [_, _, _]) Try.isAgg47 Try.sizeOf47 rfl rfl rfl (cels_own 4 rfl rfl)) ?_
      refine o_alloc rfl Try.zeroValue47 rfl (fun b8 => ?_)
      refine o_stores (vs := [(.slice _ _ _), (.slice _ _ _), (.slice _ _ _)]) 5 rfl Try.sizeOf47 rfl rfl rfl (by simp [Value.oneCell']) (by simp) ?_
      refine o_nil ?_
      refine s_seq ?_
      refine s_region ?_
      refine o_val rfl rfl rfl (y_loads (cs := [_, _, _]) Try.isAgg47 Try.sizeOf47 rfl rfl rfl (cels_own 5 rfl rfl)) ?_
      refine o_fn 0 (d := 32) rfl Try.call26 (CheckW_c wo (WOK.sub hwo MSub.ext)) rfl ?_
      rintro _ _ ⟨rfl, rfl⟩
      refine o_val rfl rfl rfl (y_assign (v := (.int _ _)) rfl) ?_
      refine o_nil ?_
      refine s_seq ?_
      refine s_region ?_
      refine o_val rfl rfl rfl (y_move (v := (.int _ _)) rfl) ?_
      refine o_val rfl rfl rfl (y_neq rfl rfl) ?_
      refine o_nil ?_
      refine s_if rfl (fun h9 => ?_) (fun h10 => ?_)
      · have hchk := h9
        refine s_seq ?_
        refine s_region ?_
        refine o_val rfl rfl rfl (y_build (vs := []) rfl (Three_k1)) ?_
        refine o_val rfl rfl rfl (y_move (v := (.int _ _)) rfl) ?_
        refine o_stores (vs := [(.slice _ _ _), (.slice _ _ _), (.slice _ _ _)]) 3 rfl Try.sizeOf47 rfl rfl rfl (by simp [Value.oneCell']) (by simp) ?_
        refine o_val rfl rfl rfl (y_assign (v := (.slice _ _ _)) rfl) ?_
        refine o_val rfl rfl rfl (y_assign (v := (.int _ _)) rfl) ?_
        refine o_nil ?_
        refine s_norm [[(_, .cells [(.slice _ _ _), (.slice _ _ _), (.slice _ _ _)].toArray 47 (0, 0))], [(_, .cells [(.slice _ _ _), (.slice _ _ _), (.slice _ _ _)].toArray 47 (0, 0))], [(_, .cells [(.slice _ _ _), (.slice _ _ _), (.slice _ _ _)].toArray 47 (0, 0))], [(_, .cells [(.slice _ _ _), (.slice _ _ _), (.slice _ _ _)].toArray 47 (0, 0))], [(_, .cells [(.slice _ _ _), (.slice _ _ _), (.slice _ _ _), (.slice _ _ _), (.slice _ _ _), (.slice _ _ _), (.slice _ _ _), (.slice _ _ _), (.slice _ _ _)].toArray 47 (0, 0))], [(_, .cells [(.slice _ _ _), (.slice _ _ _), (.slice _ _ _)].toArray 47 (0, 0))]] rfl ?_
        refine s_ret ?_
        have hte : threeErr wo wx wy = errAt wo wx wy 0 := by unfold threeErr; rw [if_pos (show errAt wo wx wy 0 ≠ 0 from hchk)]
        exact ⟨_, [], resv3 rfl (RV.cells (cs := [_, _, _]) rfl Try.isAgg47 Try.sizeOf47 rfl rfl (cels_own 3 rfl rfl)) (RV.tmp rfl) (RV.tmp rfl), .inl ⟨by rw [hte]; exact hchk, by rw [hte]; rfl, rfl⟩, sub_picks [] rfl⟩
      · have hchk := Decidable.not_not.1 h10
        refine s_skip ?_
        refine s_region ?_
        refine o_val rfl rfl rfl (y_add rfl rfl (by simp only [inK]; omega)) ?_
        refine o_val rfl rfl rfl (y_move (v := (.int _ _)) rfl) ?_
        refine o_nil ?_
        exact ⟨v + 1, (by first | omega | (dsimp only; omega)), ⟨by omega, all_next hall (by rw [hvi]; exact hchk)⟩, ⟨(congrArg (Value.int .i64) (by omega)), rfl, rfl, rfl, rfl, rfl, rfl, trivial⟩, (sub_picks [0, 0, 0, 0, 0] rfl)⟩
    · have hvi' := hvi
      refine o_val rfl rfl rfl (y_lit_z (q := 3) Try.runUnderlying53 Try.sizeOf47 rfl rfl (by rw [hvi]; rfl) (by rw [hvi]; rfl)) ?_
      refine o_val rfl rfl rfl (y_loads (cs := [_, _, _]) Try.isAgg47 Try.sizeOf47 rfl rfl rfl (cels_own 4 rfl rfl)) ?_
      refine o_alloc rfl Try.zeroValue47 rfl (fun b11 => ?_)
      refine o_stores (vs := [(.slice _ _ _), (.slice _ _ _), (.slice _ _ _)]) 5 rfl Try.sizeOf47 rfl rfl rfl (by simp [Value.oneCell']) (by simp) ?_
      refine o_nil ?_
      refine s_seq ?_
      refine s_region ?_
      refine o_val rfl rfl rfl (y_loads (cs := [_, _, _]) Try.isAgg47 Try.sizeOf47 rfl rfl rfl (cels_own 5 rfl rfl)) ?_
      refine o_fn 0 (d := 32) rfl Try.call26 (CheckW_c wx (WOK.sub hwx MSub.ext)) rfl ?_
      rintro _ _ ⟨rfl, rfl⟩
      refine o_val rfl rfl rfl (y_assign (v := (.int _ _)) rfl) ?_
      refine o_nil ?_
      refine s_seq ?_
      refine s_region ?_
      refine o_val rfl rfl rfl (y_move (v := (.int _ _)) rfl) ?_
      refine o_val rfl rfl rfl (y_neq rfl rfl) ?_
      refine o_nil ?_
      refine s_if rfl (fun h12 => ?_) (fun h13 => ?_)
      · have hchk := h12
        refine s_seq ?_
        refine s_region ?_
        refine o_val rfl rfl rfl (y_build (vs := []) rfl (Three_k1)) ?_
        refine o_val rfl rfl rfl (y_move (v := (.int _ _)) rfl) ?_
        refine o_stores (vs := [(.slice _ _ _), (.slice _ _ _), (.slice _ _ _)]) 3 rfl Try.sizeOf47 rfl rfl rfl (by simp [Value.oneCell']) (by simp) ?_
        refine o_val rfl rfl rfl (y_assign (v := (.slice _ _ _)) rfl) ?_
        refine o_val rfl rfl rfl (y_assign (v := (.int _ _)) rfl) ?_
        refine o_nil ?_
        refine s_norm [[(_, .cells [(.slice _ _ _), (.slice _ _ _), (.slice _ _ _)].toArray 47 (0, 0))], [(_, .cells [(.slice _ _ _), (.slice _ _ _), (.slice _ _ _)].toArray 47 (0, 0))], [(_, .cells [(.slice _ _ _), (.slice _ _ _), (.slice _ _ _)].toArray 47 (0, 0))], [(_, .cells [(.slice _ _ _), (.slice _ _ _), (.slice _ _ _)].toArray 47 (0, 0))], [(_, .cells [(.slice _ _ _), (.slice _ _ _), (.slice _ _ _), (.slice _ _ _), (.slice _ _ _), (.slice _ _ _), (.slice _ _ _), (.slice _ _ _), (.slice _ _ _)].toArray 47 (0, 0))], [(_, .cells [(.slice _ _ _), (.slice _ _ _), (.slice _ _ _)].toArray 47 (0, 0))]] rfl ?_
        refine s_ret ?_
        have hte : threeErr wo wx wy = errAt wo wx wy 1 := by unfold threeErr; rw [if_neg (fun hh => hh (hall 0 (by omega)))]; rw [if_pos (show errAt wo wx wy 1 ≠ 0 from hchk)]
        exact ⟨_, [], resv3 rfl (RV.cells (cs := [_, _, _]) rfl Try.isAgg47 Try.sizeOf47 rfl rfl (cels_own 3 rfl rfl)) (RV.tmp rfl) (RV.tmp rfl), .inl ⟨by rw [hte]; exact hchk, by rw [hte]; rfl, rfl⟩, sub_picks [] rfl⟩
      · have hchk := Decidable.not_not.1 h13
        refine s_skip ?_
        refine s_region ?_
        refine o_val rfl rfl rfl (y_add rfl rfl (by simp only [inK]; omega)) ?_
        refine o_val rfl rfl rfl (y_move (v := (.int _ _)) rfl) ?_
        refine o_nil ?_
        exact ⟨v + 1, (by first | omega | (dsimp only; omega)), ⟨by omega, all_next hall (by rw [hvi]; exact hchk)⟩, ⟨(congrArg (Value.int .i64) (by omega)), rfl, rfl, rfl, rfl, rfl, rfl, trivial⟩, (sub_picks [0, 0, 0, 0, 0] rfl)⟩
    · have hvi' := hvi
      refine o_val rfl rfl rfl (y_lit_z (q := 6) Try.runUnderlying53 Try.sizeOf47 rfl rfl (by rw [hvi]; rfl) (by rw [hvi]; rfl)) ?_
      refine o_val rfl rfl rfl (y_loads (cs := [_, _, _]) Try.isAgg47 Try.sizeOf47 rfl rfl rfl (cels_own 4 rfl rfl)) ?_
      refine o_alloc rfl Try.zeroValue47 rfl (fun b14 => ?_)
      refine o_stores (vs := [(.slice _ _ _), (.slice _ _ _), (.slice _ _ _)]) 5 rfl Try.sizeOf47 rfl rfl rfl (by simp [Value.oneCell']) (by simp) ?_
      refine o_nil ?_
      refine s_seq ?_
      refine s_region ?_
      refine o_val rfl rfl rfl (y_loads (cs := [_, _, _]) Try.isAgg47 Try.sizeOf47 rfl rfl rfl (cels_own 5 rfl rfl)) ?_
      refine o_fn 0 (d := 32) rfl Try.call26 (CheckW_c wy (WOK.sub hwy MSub.ext)) rfl ?_
      rintro _ _ ⟨rfl, rfl⟩
      refine o_val rfl rfl rfl (y_assign (v := (.int _ _)) rfl) ?_
      refine o_nil ?_
      refine s_seq ?_
      refine s_region ?_
      refine o_val rfl rfl rfl (y_move (v := (.int _ _)) rfl) ?_
      refine o_val rfl rfl rfl (y_neq rfl rfl) ?_
      refine o_nil ?_
      refine s_if rfl (fun h15 => ?_) (fun h16 => ?_)
      · have hchk := h15
        refine s_seq ?_
        refine s_region ?_
        refine o_val rfl rfl rfl (y_build (vs := []) rfl (Three_k1)) ?_
        refine o_val rfl rfl rfl (y_move (v := (.int _ _)) rfl) ?_
        refine o_stores (vs := [(.slice _ _ _), (.slice _ _ _), (.slice _ _ _)]) 3 rfl Try.sizeOf47 rfl rfl rfl (by simp [Value.oneCell']) (by simp) ?_
        refine o_val rfl rfl rfl (y_assign (v := (.slice _ _ _)) rfl) ?_
        refine o_val rfl rfl rfl (y_assign (v := (.int _ _)) rfl) ?_
        refine o_nil ?_
        refine s_norm [[(_, .cells [(.slice _ _ _), (.slice _ _ _), (.slice _ _ _)].toArray 47 (0, 0))], [(_, .cells [(.slice _ _ _), (.slice _ _ _), (.slice _ _ _)].toArray 47 (0, 0))], [(_, .cells [(.slice _ _ _), (.slice _ _ _), (.slice _ _ _)].toArray 47 (0, 0))], [(_, .cells [(.slice _ _ _), (.slice _ _ _), (.slice _ _ _)].toArray 47 (0, 0))], [(_, .cells [(.slice _ _ _), (.slice _ _ _), (.slice _ _ _), (.slice _ _ _), (.slice _ _ _), (.slice _ _ _), (.slice _ _ _), (.slice _ _ _), (.slice _ _ _)].toArray 47 (0, 0))], [(_, .cells [(.slice _ _ _), (.slice _ _ _), (.slice _ _ _)].toArray 47 (0, 0))]] rfl ?_
        refine s_ret ?_
        have hte : threeErr wo wx wy = errAt wo wx wy 2 := by unfold threeErr; rw [if_neg (fun hh => hh (hall 0 (by omega)))]; rw [if_neg (fun hh => hh (hall 1 (by omega)))]; rw [if_pos (show errAt wo wx wy 2 ≠ 0 from hchk)]
        exact ⟨_, [], resv3 rfl (RV.cells (cs := [_, _, _]) rfl Try.isAgg47 Try.sizeOf47 rfl rfl (cels_own 3 rfl rfl)) (RV.tmp rfl) (RV.tmp rfl), .inl ⟨by rw [hte]; exact hchk, by rw [hte]; rfl, rfl⟩, sub_picks [] rfl⟩
      · have hchk := Decidable.not_not.1 h16
        refine s_skip ?_
        refine s_region ?_
        refine o_val rfl rfl rfl (y_add rfl rfl (by simp only [inK]; omega)) ?_
        refine o_val rfl rfl rfl (y_move (v := (.int _ _)) rfl) ?_
        refine o_nil ?_
        exact ⟨v + 1, (by first | omega | (dsimp only; omega)), ⟨by omega, all_next hall (by rw [hvi]; exact hchk)⟩, ⟨(congrArg (Value.int .i64) (by omega)), rfl, rfl, rfl, rfl, rfl, rfl, trivial⟩, (sub_picks [0, 0, 0, 0, 0] rfl)⟩
  · refine s_exit ?_
    refine s_seq ?_
    refine s_seq ?_
    refine s_region ?_
    refine o_val rfl rfl rfl (y_loads (cs := [_, _, _]) Try.isAgg47 Try.sizeOf47 rfl rfl rfl (cels_own 1 rfl rfl)) ?_
    refine o_val rfl rfl rfl (y_loads (cs := [_, _, _]) Try.isAgg47 Try.sizeOf47 rfl rfl rfl (cels_own 2 rfl rfl)) ?_
    refine o_lit (vs := [(0, .agg #[.slice _ _ _, .slice _ _ _, .slice _ _ _]), (1, .agg #[.slice _ _ _, .slice _ _ _, .slice _ _ _])]) rfl rfl (Three_k2 _ _ _ _ _ _ _ _ _ _ _ _ _ _ _ _ _ _) (fun b17 => ?_)
    refine o_val rfl rfl rfl (y_len Try.runUnderlying53 rfl) ?_
    refine o_val rfl rfl rfl (y_move (v := (.int _ _)) rfl) ?_
    refine o_nil ?_
    refine s_block ?_
    refine s_loopK (γ := Nat) [(3, (.pointer _)), (4, (.pointer _)), (5, (.pointer _)), (6, (.pointer _)), (40, (.slice _ _ _)), (41, (.int _ _))] [_, _, _, _, _] (fun v => [(42, .int .i64 v)]) (fun v => []) (fun v => v ≤ 2 ∧ ∀ j, j < v → sameAt wo wx wy j) (fun v => 2 - v) (0) ⟨rfl, rfl, rfl, rfl, rfl, rfl, rfl, trivial⟩ (sub_picks [0, 0, 0, 0, 1] rfl) ?_ ?_
    · exact ⟨Nat.zero_le _, fun j hj => absurd hj (Nat.not_lt_zero j)⟩
    intro v _f hJ
    obtain ⟨hv2, hsame⟩ := hJ
    refine s_seq ?_
    refine s_region ?_
    refine o_val rfl rfl rfl (y_lss rfl rfl) ?_
    refine o_nil ?_
    refine s_seq ?_
    refine s_if rfl (fun h18 => ?_) (fun h19 => ?_)
    · refine s_skip ?_
      refine s_seq ?_
      refine s_block ?_
      refine s_seq ?_
      refine s_region ?_
      rcases (show v = 0 ∨ v = 1 by omega) with hvi | hvi
      · have hvi' := hvi
        refine o_val rfl rfl rfl (y_lit_z (q := 0) Try.runUnderlying53 Try.sizeOf47 rfl rfl (by rw [hvi]; rfl) (by rw [hvi]; rfl)) ?_
        refine o_val rfl rfl rfl (y_loads (cs := [_, _, _]) Try.isAgg47 Try.sizeOf47 rfl rfl rfl (cels_own 4 rfl rfl)) ?_
        refine o_alloc rfl Try.zeroValue47 rfl (fun b20 => ?_)
        refine o_stores (vs := [(.slice _ _ _), (.slice _ _ _), (.slice _ _ _)]) 5 rfl Try.sizeOf47 rfl rfl rfl (by simp [Value.oneCell']) (by simp) ?_
        refine o_nil ?_
        refine s_seq ?_
        refine s_region ?_
        refine o_val rfl rfl rfl (y_field0 Try.runUnderlying47 rfl Try.sizeOf23 rfl rfl) ?_
        refine o_val rfl rfl rfl (y_load Try.isAgg23 rfl (cel_own 0 rfl rfl)) ?_
        refine o_val rfl rfl rfl (y_field0 Try.runUnderlying47 rfl Try.sizeOf23 rfl rfl) ?_
        refine o_val rfl rfl rfl (y_load Try.isAgg23 rfl (cel_own 5 rfl rfl)) ?_
        refine o_fn 0 (d := 50) rfl Try.call27 (EqualFK_c wo.kA wo.kn wo.kc wo.ks hwo.1.2.2.2.1.here.down hwo.1.1 (by have := hwo.1.2.2.1; omega) (fun z hz => (hwo.1.2.2.2.2 z hz).sub MSub.ext) wx.kA wx.kn wx.kc wx.ks hwx.1.2.2.2.1.here.down hwx.1.1 (by have := hwx.1.2.2.1; omega) (fun z hz => (hwx.1.2.2.2.2 z hz).sub MSub.ext) 94 [] Try.call94 (fun a b => a.d = b.d) (fun V' a b ha hb => three1_c a b ha hb)) rfl ?_
        rintro _ _ ⟨rfl, rfl⟩
        refine o_val rfl rfl rfl (y_not rfl) ?_
        refine o_nil ?_
        refine s_forget [(3, (.pointer _)), (4, (.pointer _)), (5, (.pointer _)), (6, (.pointer _)), (40, (.slice _ _ _)), (41, (.int _ _)), (42, (.int _ _)), (51, (.bool _))] ⟨rfl, rfl, rfl, rfl, rfl, rfl, rfl, rfl, trivial⟩ (fun _f => ?_)
        refine s_if rfl (fun h21 => ?_) (fun h22 => ?_)
        · have hks := h21
          refine s_seq ?_
          refine s_region ?_
          refine o_val rfl rfl rfl (y_build (vs := []) rfl (Three_k1)) ?_
          refine o_stores (vs := [(.slice _ _ _), (.slice _ _ _), (.slice _ _ _)]) 3 rfl Try.sizeOf47 rfl rfl rfl (by simp [Value.oneCell']) (by simp) ?_
          refine o_val rfl rfl rfl (y_assign (v := (.slice _ _ _)) rfl) ?_
          refine o_val rfl rfl rfl (y_assign (v := (.int _ _)) rfl) ?_
          refine o_nil ?_
          refine s_norm [[(_, .cells [(.slice _ _ _), (.slice _ _ _), (.slice _ _ _)].toArray 47 (0, 0))], [(_, .cells [(.slice _ _ _), (.slice _ _ _), (.slice _ _ _)].toArray 47 (0, 0))], [(_, .cells [(.slice _ _ _), (.slice _ _ _), (.slice _ _ _)].toArray 47 (0, 0))], [(_, .cells [(.slice _ _ _), (.slice _ _ _), (.slice _ _ _)].toArray 47 (0, 0))], [(_, .cells [(.slice _ _ _), (.slice _ _ _), (.slice _ _ _), (.slice _ _ _), (.slice _ _ _), (.slice _ _ _)].toArray 47 (0, 0))], [(_, .cells [(.slice _ _ _), (.slice _ _ _), (.slice _ _ _)].toArray 47 (0, 0))]] rfl ?_
          refine s_ret ?_
          have hte : threeErr wo wx wy = 8 := by unfold threeErr; rw [if_neg (fun hh => hh (hall 0 (by omega)))]; rw [if_neg (fun hh => hh (hall 1 (by omega)))]; rw [if_neg (fun hh => hh (hall 2 (by omega)))]; rw [if_neg (fun hh => hks (all2_map.2 hh.1))]
          exact ⟨_, [], resv3 rfl (RV.cells (cs := [_, _, _]) rfl Try.isAgg47 Try.sizeOf47 rfl rfl (cels_own 3 rfl rfl)) (RV.tmp rfl) (RV.tmp rfl), .inl ⟨by rw [hte]; decide, by rw [hte]; rfl, rfl⟩, sub_picks [] rfl⟩
        · have hks := Decidable.not_not.1 h22
          refine s_skip ?_
          refine s_region ?_
          refine o_val rfl rfl rfl (y_add rfl rfl (by simp only [inK]; omega)) ?_
          refine o_val rfl rfl rfl (y_move (v := (.int _ _)) rfl) ?_
          refine o_nil ?_
          exact ⟨v + 1, (by first | omega | (dsimp only; omega)), ⟨by omega, all_next hsame (by rw [hvi]; exact all2_map.1 hks)⟩, ⟨(congrArg (Value.int .i64) (by omega)), rfl, rfl, rfl, rfl, rfl, rfl, trivial⟩, (sub_picks [0, 0, 0, 0, 0] rfl)⟩
      · have hvi' := hvi
        refine o_val rfl rfl rfl (y_lit_z (q := 3) Try.runUnderlying53 Try.sizeOf47 rfl rfl (by rw [hvi]; rfl) (by rw [hvi]; rfl)) ?_
        refine o_val rfl rfl rfl (y_loads (cs := [_, _, _]) Try.isAgg47 Try.sizeOf47 rfl rfl rfl (cels_own 4 rfl rfl)) ?_
        refine o_alloc rfl Try.zeroValue47 rfl (fun b23 => ?_)
        refine o_stores (vs := [(.slice _ _ _), (.slice _ _ _), (.slice _ _ _)]) 5 rfl Try.sizeOf47 rfl rfl rfl (by simp [Value.oneCell']) (by simp) ?_
        refine o_nil ?_
        refine s_seq ?_
        refine s_region ?_
        refine o_val rfl rfl rfl (y_field0 Try.runUnderlying47 rfl Try.sizeOf23 rfl rfl) ?_
        refine o_val rfl rfl rfl (y_load Try.isAgg23 rfl (cel_own 0 rfl rfl)) ?_
        refine o_val rfl rfl rfl (y_field0 Try.runUnderlying47 rfl Try.sizeOf23 rfl rfl) ?_
        refine o_val rfl rfl rfl (y_load Try.isAgg23 rfl (cel_own 5 rfl rfl)) ?_
        refine o_fn 0 (d := 50) rfl Try.call27 (EqualFK_c wo.kA wo.kn wo.kc wo.ks hwo.1.2.2.2.1.here.down hwo.1.1 (by have := hwo.1.2.2.1; omega) (fun z hz => (hwo.1.2.2.2.2 z hz).sub MSub.ext) wy.kA wy.kn wy.kc wy.ks hwy.1.2.2.2.1.here.down hwy.1.1 (by have := hwy.1.2.2.1; omega) (fun z hz => (hwy.1.2.2.2.2 z hz).sub MSub.ext) 94 [] Try.call94 (fun a b => a.d = b.d) (fun V' a b ha hb => three1_c a b ha hb)) rfl ?_
        rintro _ _ ⟨rfl, rfl⟩
        refine o_val rfl rfl rfl (y_not rfl) ?_
        refine o_nil ?_
        refine s_forget [(3, (.pointer _)), (4, (.pointer _)), (5, (.pointer _)), (6, (.pointer _)), (40, (.slice _ _ _)), (41, (.int _ _)), (42, (.int _ _)), (51, (.bool _))] ⟨rfl, rfl, rfl, rfl, rfl, rfl, rfl, rfl, trivial⟩ (fun _f => ?_)
        refine s_if rfl (fun h24 => ?_) (fun h25 => ?_)
        · have hks := h24
          refine s_seq ?_
          refine s_region ?_
          refine o_val rfl rfl rfl (y_build (vs := []) rfl (Three_k1)) ?_
          refine o_stores (vs := [(.slice _ _ _), (.slice _ _ _), (.slice _ _ _)]) 3 rfl Try.sizeOf47 rfl rfl rfl (by simp [Value.oneCell']) (by simp) ?_
          refine o_val rfl rfl rfl (y_assign (v := (.slice _ _ _)) rfl) ?_
          refine o_val rfl rfl rfl (y_assign (v := (.int _ _)) rfl) ?_
          refine o_nil ?_
          refine s_norm [[(_, .cells [(.slice _ _ _), (.slice _ _ _), (.slice _ _ _)].toArray 47 (0, 0))], [(_, .cells [(.slice _ _ _), (.slice _ _ _), (.slice _ _ _)].toArray 47 (0, 0))], [(_, .cells [(.slice _ _ _), (.slice _ _ _), (.slice _ _ _)].toArray 47 (0, 0))], [(_, .cells [(.slice _ _ _), (.slice _ _ _), (.slice _ _ _)].toArray 47 (0, 0))], [(_, .cells [(.slice _ _ _), (.slice _ _ _), (.slice _ _ _), (.slice _ _ _), (.slice _ _ _), (.slice _ _ _)].toArray 47 (0, 0))], [(_, .cells [(.slice _ _ _), (.slice _ _ _), (.slice _ _ _)].toArray 47 (0, 0))]] rfl ?_
          refine s_ret ?_
          have hte : threeErr wo wx wy = 8 := by unfold threeErr; rw [if_neg (fun hh => hh (hall 0 (by omega)))]; rw [if_neg (fun hh => hh (hall 1 (by omega)))]; rw [if_neg (fun hh => hh (hall 2 (by omega)))]; rw [if_neg (fun hh => hks (all2_map.2 hh.2))]
          exact ⟨_, [], resv3 rfl (RV.cells (cs := [_, _, _]) rfl Try.isAgg47 Try.sizeOf47 rfl rfl (cels_own 3 rfl rfl)) (RV.tmp rfl) (RV.tmp rfl), .inl ⟨by rw [hte]; decide, by rw [hte]; rfl, rfl⟩, sub_picks [] rfl⟩
        · have hks := Decidable.not_not.1 h25
          refine s_skip ?_
          refine s_region ?_
          refine o_val rfl rfl rfl (y_add rfl rfl (by simp only [inK]; omega)) ?_
          refine o_val rfl rfl rfl (y_move (v := (.int _ _)) rfl) ?_
          refine o_nil ?_
          exact ⟨v + 1, (by first | omega | (dsimp only; omega)), ⟨by omega, all_next hsame (by rw [hvi]; exact all2_map.1 hks)⟩, ⟨(congrArg (Value.int .i64) (by omega)), rfl, rfl, rfl, rfl, rfl, rfl, trivial⟩, (sub_picks [0, 0, 0, 0, 0] rfl)⟩
    · refine s_exit ?_
      refine s_seq ?_
      refine s_region ?_
      refine o_val rfl rfl rfl (y_build (vs := []) rfl (Three_k3)) ?_
      refine o_box (v := (.agg #[(.slice _ _ _)])) rfl rfl rfl (fun b26 => ?_)
      refine o_val rfl rfl rfl (y_assign (v := (.pointer _)) rfl) ?_
      refine o_nil ?_
      refine s_seq ?_
      refine s_region ?_
      refine o_val rfl rfl rfl (y_loads (cs := [_, _, _]) Try.isAgg47 Try.sizeOf47 rfl rfl rfl (cels_own 0 rfl rfl)) ?_
      refine o_fn 0 (d := 57) rfl Try.call95 (CopyW_c wo (WOK.sub hwo MSub.ext)) rfl ?_
      rintro _ _ ⟨w1, kE, kP, q1, q2, q3, q4, rfl, hkO, hkx, _, _, _, _, hkd, _, _, rfl⟩
      refine o_val rfl rfl rfl (y_fieldv (v := (.slice _ _ _)) rfl Try.runUnderlying47 rfl Try.isAgg23 rfl) ?_
      refine o_val rfl rfl rfl (y_build (vs := [(0, .slice _ _ _)]) rfl (Three_k4 _ _ _)) ?_
      refine o_alloc rfl Try.zeroValue47 rfl (fun b27 => ?_)
      refine o_stores (vs := [(.slice _ _ _), (.slice _ _ _), (.slice _ _ _)]) 12 rfl Try.sizeOf47 rfl rfl rfl (by simp [Value.oneCell']) (by simp) ?_
      refine o_nil ?_
      refine s_forget [(3, (.pointer _)), (4, (.pointer _)), (5, (.pointer _)), (6, (.pointer _)), (14, (.pointer _)), (15, (.pointer _))] ⟨rfl, rfl, rfl, rfl, rfl, rfl, trivial⟩ (fun _f => ?_)
      refine s_seq ?_
      refine s_seq ?_
      refine s_region ?_
      have ek1 : wo.ks.map KR.d = wx.ks.map KR.d := hsame 0 (by omega)
      have ek2 : wo.ks.map KR.d = wy.ks.map KR.d := hsame 1 (by omega)
      have ho0 := wErr_zero (hall 0 (by omega))
      have hx0 := wErr_zero (hall 1 (by omega))
      have hy0 := wErr_zero (hall 2 (by omega))
      have hte : threeErr wo wx wy = 0 := by unfold threeErr; rw [if_neg (fun hh => hh (hall 0 (by omega))), if_neg (fun hh => hh (hall 1 (by omega))), if_neg (fun hh => hh (hall 2 (by omega))), if_pos ⟨ek1, ek2⟩]
      have hK16 : wo.ks.length ≤ 16 := by have := ho0.1; unfold ckErr at this; split at this; (· cases this); (· omega)
      have hlk := hwo.1.1
      have hlo := hwo.2.1.1
      have hlx := hwx.2.1.1
      have hly := hwy.2.1.1
      have hNo := ho0.2.1.1
      have hNx := hx0.2.1.1
      have hNy := hy0.2.1.1
      refine o_val rfl rfl rfl (y_field0 Try.runUnderlying47 rfl Try.sizeOf22 rfl rfl) ?_
      refine o_val rfl rfl rfl (y_load Try.isAgg22 rfl (cel_own 7 rfl rfl)) ?_
      refine o_val rfl rfl rfl (y_len Try.runUnderlying22 rfl) ?_
      refine o_val rfl rfl rfl (y_field0 Try.runUnderlying47 rfl Try.sizeOf22 rfl rfl) ?_
      refine o_val rfl rfl rfl (y_load Try.isAgg22 rfl (cel_own 8 rfl rfl)) ?_
      refine o_val rfl rfl rfl (y_len Try.runUnderlying22 rfl) ?_
      refine o_val rfl rfl rfl (y_field0 Try.runUnderlying47 rfl Try.sizeOf22 rfl rfl) ?_
      refine o_val rfl rfl rfl (y_load Try.isAgg22 rfl (cel_own 6 rfl rfl)) ?_
      refine o_val rfl rfl rfl (y_len Try.runUnderlying22 rfl) ?_
      refine o_val rfl rfl rfl (y_max3 rfl rfl rfl) ?_
      refine o_val rfl rfl rfl (y_move (v := (.int _ _)) rfl) ?_
      refine o_nil ?_
      refine s_block ?_
      refine s_group ?_
      refine s_group ?_
      refine s_group ?_
      refine s_group ?_
      refine s_loopK (γ := LX6) [(3, (.pointer _)), (4, (.pointer _)), (5, (.pointer _)), (6, (.pointer _)), (14, (.pointer _)), (15, (.pointer _)), (69, (.int _ _))] [_, _, _, _, _, _, _, _, _, _] (fun g => [(70, .int .i64 g.i)]) (fun g => [[(b27, .cells [.slice w1.kA w1.kn w1.kc, .slice g.gA g.gs.length g.gC, .slice g.iA g.its.length g.iC].toArray 47 (0, 0))], g.gE, g.iE, g.P, [(b26, .cells [.slice g.A g.kl.length g.C].toArray 184 (0, 0))], g.cE]) (fun g => g.i ≤ (max (max wx.gn wy.gn) wo.gn) ∧ OS g.gA g.gs.length g.gC 3 1 ((g.gs).map (.int .i64)) g.gE ∧ OS g.iA g.its.length g.iC 136 3 ((g.its).flatMap encIt) g.iE ∧ (∀ x ∈ g.its, IOK (orM V (inG g.P)) x) ∧ OS g.A g.kl.length g.C 68 4 ((g.kl).flatMap encKL) g.cE ∧ g.its.map IR.d = mIts wo.kn wo wx wy g.i ∧ g.gs = mGs wo.kn wo wx wy g.i ∧ g.kl = mCl wo.kn wo wx wy g.i ∧ g.kl.length ≤ 273 * g.i ∧ g.its.length ≤ g.i ∧ g.gs.length = g.i) (fun g => (max (max wx.gn wy.gn) wo.gn) - g.i) (LX6.mk 0 [] none 0 [] [] none 0 [] [] [] none 0 []) ⟨rfl, rfl, rfl, rfl, rfl, rfl, rfl, rfl, trivial⟩ (sub_picks [12, 12, 12, 12, 11, 11, 0, 0, 0, 0, 0, 0, 0, 0, 0, 0] rfl) ?_ ?_
      · exact ⟨Nat.zero_le _, OS.nil _ _, OS.nil _ _, fun x hx => absurd hx List.not_mem_nil, OS.nil _ _, rfl, rfl, rfl, Nat.le_refl _, Nat.le_refl _, rfl⟩
      intro g _f hL
      refine s_norm _ (by simp only [pull, picks, setG, List.cons_append, List.nil_append, List.append_nil, List.drop_succ_cons, List.drop_zero]; rfl) ?_
      obtain ⟨hgi, hgo, hio, hii, hko, hgits, hggs, hgkl, hgkn, hgin, hgln⟩ := hL
      refine s_seq ?_
      refine s_region ?_
      refine o_val rfl rfl rfl (y_lss rfl rfl) ?_
      refine o_nil ?_
      refine s_seq ?_
      refine s_if rfl (fun h28 => ?_) (fun h29 => ?_)
      · refine s_skip ?_
        refine s_seq ?_
        refine s_block ?_
        refine s_seq ?_
        refine s_region ?_
        refine o_val rfl rfl rfl (y_move (v := (.int _ _)) rfl) ?_
        refine o_val rfl rfl rfl (y_assign (v := (.int _ _)) rfl) ?_
        refine o_nil ?_
        refine s_seq ?_
        refine s_region ?_
        refine o_val rfl rfl rfl (y_move (v := (.pointer _)) rfl) ?_
        refine o_val rfl rfl rfl (y_move (v := (.int _ _)) rfl) ?_
        refine o_val rfl rfl rfl (y_field0 Try.runUnderlying47 rfl Try.sizeOf23 rfl rfl) ?_
        refine o_val rfl rfl rfl (y_load Try.isAgg23 rfl (cel_own 12 rfl rfl)) ?_
        refine o_val rfl rfl rfl (y_len Try.runUnderlying23 rfl) ?_
        refine o_val rfl rfl rfl (y_loads (cs := [_, _, _]) Try.isAgg47 Try.sizeOf47 rfl rfl rfl (cels_own 12 rfl rfl)) ?_
        refine o_val rfl rfl rfl (y_loads (cs := [_, _, _]) Try.isAgg47 Try.sizeOf47 rfl rfl rfl (cels_own 13 rfl rfl)) ?_
        refine o_val rfl rfl rfl (y_loads (cs := [_, _, _]) Try.isAgg47 Try.sizeOf47 rfl rfl rfl (cels_own 14 rfl rfl)) ?_
        refine o_pull 5 ?_
        refine o_pull 5 ?_
        refine o_fn 2 (d := 82) rfl Try.call96 (SlotM_c (V0 := V) MSub.ext b26 g.A g.C g.cE g.kl hko ((g.i : Nat) : Int) wo.kn wo wx wy hwo hwx hwy (fun a b c ha hb hc => sameLen_of ek1 ek2 (find_held ho0.2.2.2 ha).2.2.2.2.2 (find_held hx0.2.2.2 hb).2.2.2.2.2 (find_held hy0.2.2.2 hc).2.2.2.2.2) (by omega) (by omega)) rfl ?_
        rintro _ _ ⟨i', ok, kl', vA', vC', vE', sP, rfl, hi', hok, hkl', hko', rfl⟩
        refine o_val rfl rfl rfl (y_move (v := (.tuple #[(.agg #[(.int _ _), (.int _ _), (.slice _ _ _)]), (.bool _)])) rfl) ?_
        refine o_val rfl rfl rfl (y_extract (v := (.agg #[(.int _ _), (.int _ _), (.slice _ _ _)])) rfl rfl) ?_
        refine o_val rfl rfl rfl (y_extract (v := (.bool _)) rfl rfl) ?_
        refine o_alloc rfl Try.zeroValue136 rfl (fun b30 => ?_)
        refine o_stores (vs := [(.int _ _), (.int _ _), (.slice _ _ _)]) 17 rfl Try.sizeOf136 rfl rfl rfl (by simp [Value.oneCell']) (by simp) ?_
        refine o_val rfl rfl rfl (y_assign (v := (.bool _)) rfl) ?_
        refine o_nil ?_
        refine s_norm [[(_, .cells [(.slice _ _ _)].toArray 184 (0, 0))], _, _, [(_, .cells [(.slice _ _ _), (.slice _ _ _), (.slice _ _ _)].toArray 47 (0, 0))], _, _, _, _, _, _, _, _, _, [(_, .cells [(.slice _ _ _), (.slice _ _ _), (.slice _ _ _)].toArray 47 (0, 0))], [(_, .cells [(.slice _ _ _), (.slice _ _ _), (.slice _ _ _)].toArray 47 (0, 0))], [(_, .cells [(.slice _ _ _), (.slice _ _ _), (.slice _ _ _)].toArray 47 (0, 0))], [(_, .cells [(.slice _ _ _), (.slice _ _ _), (.slice _ _ _)].toArray 47 (0, 0))], [(_, .cells [(.int _ _), (.int _ _), (.slice _ _ _)].toArray 136 (0, 0))]] rfl ?_
        refine s_forget [(3, (.pointer _)), (4, (.pointer _)), (5, (.pointer _)), (6, (.pointer _)), (14, (.pointer _)), (15, (.pointer _)), (16, (.int _ _)), (17, (.pointer _)), (18, (.bool _)), (69, (.int _ _)), (70, (.int _ _))] ⟨rfl, rfl, rfl, rfl, rfl, rfl, rfl, rfl, rfl, rfl, rfl, trivial⟩ (fun _f => ?_)
        refine s_seq ?_
        refine s_region ?_
        refine o_val rfl rfl rfl (y_assign (v := (.int _ _)) rfl) ?_
        refine o_nil ?_
        refine s_seq ?_
        refine s_seq ?_
        refine s_region ?_
        refine o_val rfl rfl rfl (y_loads (cs := [_, _, _]) Try.isAgg47 Try.sizeOf47 rfl rfl rfl (cels_own 14 rfl rfl)) ?_
        refine o_val rfl rfl rfl (y_loads (cs := [_, _, _]) Try.isAgg47 Try.sizeOf47 rfl rfl rfl (cels_own 15 rfl rfl)) ?_
        refine o_val rfl rfl rfl (y_loads (cs := [_, _, _]) Try.isAgg47 Try.sizeOf47 rfl rfl rfl (cels_own 13 rfl rfl)) ?_
        refine o_lit (vs := [(0, .agg #[.slice _ _ _, .slice _ _ _, .slice _ _ _]), (1, .agg #[.slice _ _ _, .slice _ _ _, .slice _ _ _]), (2, .agg #[.slice _ _ _, .slice _ _ _, .slice _ _ _])]) rfl rfl (Three_k0 _ _ _ _ _ _ _ _ _ _ _ _ _ _ _ _ _ _ _ _ _ _ _ _ _ _ _) (fun b31 => ?_)
        refine o_val rfl rfl rfl (y_len Try.runUnderlying53 rfl) ?_
        refine o_val rfl rfl rfl (y_move (v := (.int _ _)) rfl) ?_
        refine o_nil ?_
        refine s_block ?_
        refine s_loopK (γ := Nat) [(3, (.pointer _)), (4, (.pointer _)), (5, (.pointer _)), (6, (.pointer _)), (14, (.pointer _)), (15, (.pointer _)), (16, (.int _ _)), (17, (.pointer _)), (18, (.bool _)), (69, (.int _ _)), (70, (.int _ _)), (88, (.slice _ _ _)), (89, (.int _ _))] [_, _, _, _, _, _, _, _, _, _, _, _, _, _, _, _, _, _, _] (fun v => [(19, .int .i64 (gTo wo wx wy g.i v)), (90, .int .i64 v)]) (fun v => []) (fun v => v ≤ 3) (fun v => 3 - v) (0) ⟨rfl, rfl, rfl, rfl, rfl, rfl, rfl, rfl, rfl, rfl, rfl, rfl, rfl, rfl, rfl, trivial⟩ (sub_picks [0, 0, 0, 0, 0, 0, 0, 0, 0, 0, 0, 0, 0, 0, 0, 0, 0, 0, 0] rfl) ?_ ?_
        · exact Nat.zero_le _
        intro v _f hM
        have hv3 := hM
        refine s_seq ?_
        refine s_region ?_
        refine o_val rfl rfl rfl (y_lss rfl rfl) ?_
        refine o_nil ?_
        refine s_seq ?_
        refine s_if rfl (fun h32 => ?_) (fun h33 => ?_)
        · refine s_skip ?_
          refine s_seq ?_
          refine s_block ?_
          refine s_seq ?_
          refine s_region ?_
          rcases (show v = 0 ∨ v = 1 ∨ v = 2 by omega) with hvi | hvi | hvi
          · have hvi' := hvi
            refine o_val rfl rfl rfl (y_lit_z (q := 0) Try.runUnderlying53 Try.sizeOf47 rfl rfl (by rw [hvi]; rfl) (by rw [hvi]; rfl)) ?_
            refine o_val rfl rfl rfl (y_loads (cs := [_, _, _]) Try.isAgg47 Try.sizeOf47 rfl rfl rfl (cels_own 18 rfl rfl)) ?_
            refine o_alloc rfl Try.zeroValue47 rfl (fun b34 => ?_)
            refine o_stores (vs := [(.slice _ _ _), (.slice _ _ _), (.slice _ _ _)]) 19 rfl Try.sizeOf47 rfl rfl rfl (by simp [Value.oneCell']) (by simp) ?_
            refine o_nil ?_
            refine s_seq ?_
            refine s_region ?_
            refine o_val rfl rfl rfl (y_move (v := (.int _ _)) rfl) ?_
            refine o_val rfl rfl rfl (y_field0 Try.runUnderlying47 rfl Try.sizeOf22 rfl rfl) ?_
            refine o_val rfl rfl rfl (y_load Try.isAgg22 rfl (cel_own 19 rfl rfl)) ?_
            refine o_val rfl rfl rfl (y_len Try.runUnderlying22 rfl) ?_
            refine o_val rfl rfl rfl (y_lss rfl rfl) ?_
            refine o_nil ?_
            refine s_if rfl (fun h35 => ?_) (fun h36 => ?_)
            · refine s_region ?_
              refine o_val rfl rfl rfl (y_move (v := (.int _ _)) rfl) ?_
              refine o_val rfl rfl rfl (y_field0 Try.runUnderlying47 rfl Try.sizeOf22 rfl rfl) ?_
              refine o_val rfl rfl rfl (y_load Try.isAgg22 rfl (cel_own 19 rfl rfl)) ?_
              refine o_val rfl rfl rfl (y_move (v := (.int _ _)) rfl) ?_
              refine o_val rfl rfl rfl (y_index1 Try.runUnderlying22 Try.sizeOf3 (some_int (i := 0) hwx.2.1.2.2.2 (by omega)) rfl rfl (by omega)) ?_
              refine o_val rfl rfl rfl (y_load Try.isAgg3 rfl (cel_int hwx.2.1.2.2.2.here (by omega))) ?_
              refine o_val rfl rfl rfl (y_max rfl rfl) ?_
              refine o_val rfl rfl rfl (y_assign (v := (.int _ _)) rfl) ?_
              refine o_nil ?_
              refine s_forget [(3, (.pointer _)), (4, (.pointer _)), (5, (.pointer _)), (6, (.pointer _)), (14, (.pointer _)), (15, (.pointer _)), (16, (.int _ _)), (17, (.pointer _)), (18, (.bool _)), (19, (.int _ _)), (69, (.int _ _)), (70, (.int _ _)), (88, (.slice _ _ _)), (89, (.int _ _)), (90, (.int _ _))] ⟨rfl, rfl, rfl, rfl, rfl, rfl, rfl, rfl, rfl, rfl, rfl, rfl, rfl, rfl, rfl, trivial⟩ (fun _f => ?_)
              refine s_region ?_
              refine o_val rfl rfl rfl (y_add rfl rfl (by simp only [inK]; omega)) ?_
              refine o_val rfl rfl rfl (y_move (v := (.int _ _)) rfl) ?_
              refine o_nil ?_
              exact ⟨v + 1, (by first | omega | (dsimp only; omega)), (by first | omega | (dsimp only; omega)), ⟨(congrArg (Value.int .i64) (by rw [hvi]; simp only [gTo]; first | (rw [show stepG 0 wx.gs g.i = _ from if_pos (by omega)]; rfl) | (rw [show stepG 0 wx.gs g.i = _ from if_neg (by omega)]))), (congrArg (Value.int .i64) (by omega)), rfl, rfl, rfl, rfl, rfl, rfl, rfl, rfl, rfl, rfl, rfl, rfl, rfl, trivial⟩, (sub_picks [0, 0, 0, 0, 0, 0, 0, 0, 0, 0, 0, 0, 0, 0, 0, 0, 0, 0, 0] rfl)⟩
            · refine s_skip ?_
              refine s_region ?_
              refine o_val rfl rfl rfl (y_add rfl rfl (by simp only [inK]; omega)) ?_
              refine o_val rfl rfl rfl (y_move (v := (.int _ _)) rfl) ?_
              refine o_nil ?_
              exact ⟨v + 1, (by first | omega | (dsimp only; omega)), (by first | omega | (dsimp only; omega)), ⟨(congrArg (Value.int .i64) (by rw [hvi]; simp only [gTo]; first | (rw [show stepG 0 wx.gs g.i = _ from if_pos (by omega)]; rfl) | (rw [show stepG 0 wx.gs g.i = _ from if_neg (by omega)]))), (congrArg (Value.int .i64) (by omega)), rfl, rfl, rfl, rfl, rfl, rfl, rfl, rfl, rfl, rfl, rfl, rfl, rfl, trivial⟩, (sub_picks [0, 0, 0, 0, 0, 0, 0, 0, 0, 0, 0, 0, 0, 0, 0, 0, 0, 0, 0] rfl)⟩
          · have hvi' := hvi
            refine o_val rfl rfl rfl (y_lit_z (q := 3) Try.runUnderlying53 Try.sizeOf47 rfl rfl (by rw [hvi]; rfl) (by rw [hvi]; rfl)) ?_
            refine o_val rfl rfl rfl (y_loads (cs := [_, _, _]) Try.isAgg47 Try.sizeOf47 rfl rfl rfl (cels_own 18 rfl rfl)) ?_
            refine o_alloc rfl Try.zeroValue47 rfl (fun b37 => ?_)
            refine o_stores (vs := [(.slice _ _ _), (.slice _ _ _), (.slice _ _ _)]) 19 rfl Try.sizeOf47 rfl rfl rfl (by simp [Value.oneCell']) (by simp) ?_
            refine o_nil ?_
            refine s_seq ?_
            refine s_region ?_
            refine o_val rfl rfl rfl (y_move (v := (.int _ _)) rfl) ?_
            refine o_val rfl rfl rfl (y_field0 Try.runUnderlying47 rfl Try.sizeOf22 rfl rfl) ?_
            refine o_val rfl rfl rfl (y_load Try.isAgg22 rfl (cel_own 19 rfl rfl)) ?_
            refine o_val rfl rfl rfl (y_len Try.runUnderlying22 rfl) ?_
            refine o_val rfl rfl rfl (y_lss rfl rfl) ?_
            refine o_nil ?_
            refine s_if rfl (fun h38 => ?_) (fun h39 => ?_)
            · refine s_region ?_
              refine o_val rfl rfl rfl (y_move (v := (.int _ _)) rfl) ?_
              refine o_val rfl rfl rfl (y_field0 Try.runUnderlying47 rfl Try.sizeOf22 rfl rfl) ?_
              refine o_val rfl rfl rfl (y_load Try.isAgg22 rfl (cel_own 19 rfl rfl)) ?_
              refine o_val rfl rfl rfl (y_move (v := (.int _ _)) rfl) ?_
              refine o_val rfl rfl rfl (y_index1 Try.runUnderlying22 Try.sizeOf3 (some_int (i := 0) hwy.2.1.2.2.2 (by omega)) rfl rfl (by omega)) ?_
              refine o_val rfl rfl rfl (y_load Try.isAgg3 rfl (cel_int hwy.2.1.2.2.2.here (by omega))) ?_
              refine o_val rfl rfl rfl (y_max rfl rfl) ?_
              refine o_val rfl rfl rfl (y_assign (v := (.int _ _)) rfl) ?_
              refine o_nil ?_
              refine s_forget [(3, (.pointer _)), (4, (.pointer _)), (5, (.pointer _)), (6, (.pointer _)), (14, (.pointer _)), (15, (.pointer _)), (16, (.int _ _)), (17, (.pointer _)), (18, (.bool _)), (19, (.int _ _)), (69, (.int _ _)), (70, (.int _ _)), (88, (.slice _ _ _)), (89, (.int _ _)), (90, (.int _ _))] ⟨rfl, rfl, rfl, rfl, rfl, rfl, rfl, rfl, rfl, rfl, rfl, rfl, rfl, rfl, rfl, trivial⟩ (fun _f => ?_)
              refine s_region ?_
              refine o_val rfl rfl rfl (y_add rfl rfl (by simp only [inK]; omega)) ?_
              refine o_val rfl rfl rfl (y_move (v := (.int _ _)) rfl) ?_
              refine o_nil ?_
              exact ⟨v + 1, (by first | omega | (dsimp only; omega)), (by first | omega | (dsimp only; omega)), ⟨(congrArg (Value.int .i64) (by rw [hvi]; simp only [gTo]; first | (rw [show stepG (stepG 0 wx.gs g.i) wy.gs g.i = _ from if_pos (by omega)]; rfl) | (rw [show stepG (stepG 0 wx.gs g.i) wy.gs g.i = _ from if_neg (by omega)]))), (congrArg (Value.int .i64) (by omega)), rfl, rfl, rfl, rfl, rfl, rfl, rfl, rfl, rfl, rfl, rfl, rfl, rfl, trivial⟩, (sub_picks [0, 0, 0, 0, 0, 0, 0, 0, 0, 0, 0, 0, 0, 0, 0, 0, 0, 0, 0] rfl)⟩
            · refine s_skip ?_
              refine s_region ?_
              refine o_val rfl rfl rfl (y_add rfl rfl (by simp only [inK]; omega)) ?_
              refine o_val rfl rfl rfl (y_move (v := (.int _ _)) rfl) ?_
              refine o_nil ?_
              exact ⟨v + 1, (by first | omega | (dsimp only; omega)), (by first | omega | (dsimp only; omega)), ⟨(congrArg (Value.int .i64) (by rw [hvi]; simp only [gTo]; first | (rw [show stepG (stepG 0 wx.gs g.i) wy.gs g.i = _ from if_pos (by omega)]; rfl) | (rw [show stepG (stepG 0 wx.gs g.i) wy.gs g.i = _ from if_neg (by omega)]))), (congrArg (Value.int .i64) (by omega)), rfl, rfl, rfl, rfl, rfl, rfl, rfl, rfl, rfl, rfl, rfl, rfl, rfl, trivial⟩, (sub_picks [0, 0, 0, 0, 0, 0, 0, 0, 0, 0, 0, 0, 0, 0, 0, 0, 0, 0, 0] rfl)⟩
          · have hvi' := hvi
            refine o_val rfl rfl rfl (y_lit_z (q := 6) Try.runUnderlying53 Try.sizeOf47 rfl rfl (by rw [hvi]; rfl) (by rw [hvi]; rfl)) ?_
            refine o_val rfl rfl rfl (y_loads (cs := [_, _, _]) Try.isAgg47 Try.sizeOf47 rfl rfl rfl (cels_own 18 rfl rfl)) ?_
            refine o_alloc rfl Try.zeroValue47 rfl (fun b40 => ?_)
            refine o_stores (vs := [(.slice _ _ _), (.slice _ _ _), (.slice _ _ _)]) 19 rfl Try.sizeOf47 rfl rfl rfl (by simp [Value.oneCell']) (by simp) ?_
            refine o_nil ?_
            refine s_seq ?_
            refine s_region ?_
            refine o_val rfl rfl rfl (y_move (v := (.int _ _)) rfl) ?_
            refine o_val rfl rfl rfl (y_field0 Try.runUnderlying47 rfl Try.sizeOf22 rfl rfl) ?_
            refine o_val rfl rfl rfl (y_load Try.isAgg22 rfl (cel_own 19 rfl rfl)) ?_
            refine o_val rfl rfl rfl (y_len Try.runUnderlying22 rfl) ?_
            refine o_val rfl rfl rfl (y_lss rfl rfl) ?_
            refine o_nil ?_
            refine s_if rfl (fun h41 => ?_) (fun h42 => ?_)
            · refine s_region ?_
              refine o_val rfl rfl rfl (y_move (v := (.int _ _)) rfl) ?_
              refine o_val rfl rfl rfl (y_field0 Try.runUnderlying47 rfl Try.sizeOf22 rfl rfl) ?_
              refine o_val rfl rfl rfl (y_load Try.isAgg22 rfl (cel_own 19 rfl rfl)) ?_
              refine o_val rfl rfl rfl (y_move (v := (.int _ _)) rfl) ?_
              refine o_val rfl rfl rfl (y_index1 Try.runUnderlying22 Try.sizeOf3 (some_int (i := 0) hwo.2.1.2.2.2 (by omega)) rfl rfl (by omega)) ?_
              refine o_val rfl rfl rfl (y_load Try.isAgg3 rfl (cel_int hwo.2.1.2.2.2.here (by omega))) ?_
              refine o_val rfl rfl rfl (y_max rfl rfl) ?_
              refine o_val rfl rfl rfl (y_assign (v := (.int _ _)) rfl) ?_
              refine o_nil ?_
              refine s_forget [(3, (.pointer _)), (4, (.pointer _)), (5, (.pointer _)), (6, (.pointer _)), (14, (.pointer _)), (15, (.pointer _)), (16, (.int _ _)), (17, (.pointer _)), (18, (.bool _)), (19, (.int _ _)), (69, (.int _ _)), (70, (.int _ _)), (88, (.slice _ _ _)), (89, (.int _ _)), (90, (.int _ _))] ⟨rfl, rfl, rfl, rfl, rfl, rfl, rfl, rfl, rfl, rfl, rfl, rfl, rfl, rfl, rfl, trivial⟩ (fun _f => ?_)
              refine s_region ?_
              refine o_val rfl rfl rfl (y_add rfl rfl (by simp only [inK]; omega)) ?_
              refine o_val rfl rfl rfl (y_move (v := (.int _ _)) rfl) ?_
              refine o_nil ?_
              exact ⟨v + 1, (by first | omega | (dsimp only; omega)), (by first | omega | (dsimp only; omega)), ⟨(congrArg (Value.int .i64) (by rw [hvi]; simp only [gTo]; first | (rw [show stepG (stepG (stepG 0 wx.gs g.i) wy.gs g.i) wo.gs g.i = _ from if_pos (by omega)]; rfl) | (rw [show stepG (stepG (stepG 0 wx.gs g.i) wy.gs g.i) wo.gs g.i = _ from if_neg (by omega)]))), (congrArg (Value.int .i64) (by omega)), rfl, rfl, rfl, rfl, rfl, rfl, rfl, rfl, rfl, rfl, rfl, rfl, rfl, trivial⟩, (sub_picks [0, 0, 0, 0, 0, 0, 0, 0, 0, 0, 0, 0, 0, 0, 0, 0, 0, 0, 0] rfl)⟩
            · refine s_skip ?_
              refine s_region ?_
              refine o_val rfl rfl rfl (y_add rfl rfl (by simp only [inK]; omega)) ?_
              refine o_val rfl rfl rfl (y_move (v := (.int _ _)) rfl) ?_
              refine o_nil ?_
              exact ⟨v + 1, (by first | omega | (dsimp only; omega)), (by first | omega | (dsimp only; omega)), ⟨(congrArg (Value.int .i64) (by rw [hvi]; simp only [gTo]; first | (rw [show stepG (stepG (stepG 0 wx.gs g.i) wy.gs g.i) wo.gs g.i = _ from if_pos (by omega)]; rfl) | (rw [show stepG (stepG (stepG 0 wx.gs g.i) wy.gs g.i) wo.gs g.i = _ from if_neg (by omega)]))), (congrArg (Value.int .i64) (by omega)), rfl, rfl, rfl, rfl, rfl, rfl, rfl, rfl, rfl, rfl, rfl, rfl, rfl, trivial⟩, (sub_picks [0, 0, 0, 0, 0, 0, 0, 0, 0, 0, 0, 0, 0, 0, 0, 0, 0, 0, 0] rfl)⟩
        · refine s_exit ?_
          refine s_seq ?_
          refine s_seq ?_
          refine s_region ?_
          have hv33 : v = 3 := by omega
          refine o_val rfl rfl rfl (y_move (v := (.bool _)) rfl) ?_
          refine o_nil ?_
          refine s_ifb rfl (fun h43 => ?_) (fun h44 => ?_)
          · have hok1 := h43
            refine s_seq ?_
            refine s_region ?_
            refine o_val rfl rfl rfl (y_field0 Try.runUnderlying136 rfl Try.sizeOf117 rfl rfl) ?_
            refine o_val rfl rfl rfl (y_field0 Try.runUnderlying117 rfl Try.sizeOf3 rfl rfl) ?_
            refine o_val rfl rfl rfl (y_load Try.isAgg3 rfl (cel_own 17 rfl rfl)) ?_
            refine o_val rfl rfl rfl (y_assign (v := (.int _ _)) rfl) ?_
            refine o_nil ?_
            refine s_region ?_
            refine o_val rfl rfl rfl (y_field0 Try.runUnderlying47 rfl Try.sizeOf45 rfl rfl) ?_
            refine o_val rfl rfl rfl (y_load Try.isAgg45 rfl (cel_own 3 rfl rfl)) ?_
            refine o_val rfl rfl rfl (y_loads (cs := [_, _, _]) Try.isAgg136 Try.sizeOf136 rfl rfl rfl (cels_own 17 rfl rfl)) ?_
            refine o_lit (vs := [(0, .agg #[.int _ _, .int _ _, .slice _ _ _])]) rfl rfl (Three_k5 _ _ _ _ _) (fun b45 => ?_)
            refine o_append (sz := 3) (bytes := 40) (news := [(.int _ _), (.int _ _), (.slice _ _ _)]) 5 rfl Try.underlying45 Try.type136 rfl rfl rfl rfl rfl hio rfl rfl (Src.slice Try.underlying45 (cels_own 19 rfl rfl) rfl (by simp [Value.oneCell']) (by simp)) (by omega) (fun A46 c47 E48 ho49 hn50 => ?_)
            have ho51 : OS A46 (g.its.length + 1) c47 136 3 ((g.its ++ [i']).flatMap encIt) E48 := os_snoc ho49 rfl
            clear ho49
            refine o_val rfl rfl rfl (y_field0 Try.runUnderlying47 rfl Try.sizeOf45 rfl rfl) ?_
            refine o_store (v := (.slice _ _ _)) 3 rfl Try.sizeOf45 rfl rfl rfl rfl ?_
            refine o_nil ?_
            refine s_norm [[(_, .cells [(.slice _ _ _)].toArray 184 (0, 0))], _, _, [(_, .cells [(.slice _ _ _), (.slice _ _ _), (.slice _ _ _)].toArray 47 (0, 0))], _, _, _, _, _, _, _, _, _, [(_, .cells [(.slice _ _ _), (.slice _ _ _), (.slice _ _ _)].toArray 47 (0, 0))], [(_, .cells [(.slice _ _ _), (.slice _ _ _), (.slice _ _ _)].toArray 47 (0, 0))], [(_, .cells [(.slice _ _ _), (.slice _ _ _), (.slice _ _ _)].toArray 47 (0, 0))], [(_, .cells [(.slice _ _ _), (.slice _ _ _), (.slice _ _ _)].toArray 47 (0, 0))], [(_, .cells [(.int _ _), (.int _ _), (.slice _ _ _)].toArray 136 (0, 0))], [(_, .cells [(.slice _ _ _), (.slice _ _ _), (.slice _ _ _), (.slice _ _ _), (.slice _ _ _), (.slice _ _ _), (.slice _ _ _), (.slice _ _ _), (.slice _ _ _)].toArray 47 (0, 0))], [(_, .cells [(.int _ _), (.int _ _), (.slice _ _ _)].toArray 136 (0, 0))]] rfl ?_
            refine s_region ?_
            refine o_val rfl rfl rfl (y_field0 Try.runUnderlying47 rfl Try.sizeOf22 rfl rfl) ?_
            refine o_val rfl rfl rfl (y_load Try.isAgg22 rfl (cel_own 3 rfl rfl)) ?_
            refine o_val rfl rfl rfl (y_move (v := (.int _ _)) rfl) ?_
            refine o_lit (vs := [(0, .int _ _)]) rfl rfl (Three_k6 _) (fun b52 => ?_)
            refine o_append (sz := 1) (bytes := 8) (news := [(.int _ _)]) 4 rfl Try.underlying22 Try.type3 rfl rfl rfl rfl rfl hgo rfl rfl (Src.slice Try.underlying22 (cels_own 20 rfl rfl) rfl (by simp [Value.oneCell']) (by simp)) (by omega) (fun A53 c54 E55 ho56 hn57 => ?_)
            have ho58 : OS A53 (g.gs.length + 1) c54 3 1 ((g.gs ++ [i'.g]).map (.int .i64)) E55 := (os_eq ho56 (by rw [List.map_append]; rfl))
            clear ho56
            refine o_val rfl rfl rfl (y_field0 Try.runUnderlying47 rfl Try.sizeOf22 rfl rfl) ?_
            refine o_store (v := (.slice _ _ _)) 3 rfl Try.sizeOf22 rfl rfl rfl rfl ?_
            refine o_nil ?_
            refine s_norm [[(_, .cells [(.slice _ _ _)].toArray 184 (0, 0))], _, _, [(_, .cells [(.slice _ _ _), (.slice _ _ _), (.slice _ _ _)].toArray 47 (0, 0))], _, _, _, _, _, _, _, _, _, [(_, .cells [(.slice _ _ _), (.slice _ _ _), (.slice _ _ _)].toArray 47 (0, 0))], [(_, .cells [(.slice _ _ _), (.slice _ _ _), (.slice _ _ _)].toArray 47 (0, 0))], [(_, .cells [(.slice _ _ _), (.slice _ _ _), (.slice _ _ _)].toArray 47 (0, 0))], [(_, .cells [(.slice _ _ _), (.slice _ _ _), (.slice _ _ _)].toArray 47 (0, 0))], [(_, .cells [(.int _ _), (.int _ _), (.slice _ _ _)].toArray 136 (0, 0))], [(_, .cells [(.slice _ _ _), (.slice _ _ _), (.slice _ _ _), (.slice _ _ _), (.slice _ _ _), (.slice _ _ _), (.slice _ _ _), (.slice _ _ _), (.slice _ _ _)].toArray 47 (0, 0))], [(_, .cells [(.int _ _), (.int _ _), (.slice _ _ _)].toArray 136 (0, 0))], [(_, .cells [(.int _ _)].toArray 3 (0, 0))]] rfl ?_
            refine s_forget [(3, (.pointer _)), (4, (.pointer _)), (5, (.pointer _)), (6, (.pointer _)), (14, (.pointer _)), (15, (.pointer _)), (69, (.int _ _)), (70, (.int _ _))] ⟨rfl, rfl, rfl, rfl, rfl, rfl, rfl, rfl, trivial⟩ (fun _f => ?_)
            refine s_region ?_
            refine o_pull 6 ?_
            refine o_pull 3 ?_
            refine o_fuse ?_
            refine o_val rfl rfl rfl (y_add rfl rfl (by simp only [inK]; omega)) ?_
            refine o_val rfl rfl rfl (y_move (v := (.int _ _)) rfl) ?_
            refine o_nil ?_
            have hat : (mergeAt wo.kn wo wx wy g.i).1 = some i'.d := by unfold mergeAt; rw [← hok]; rw [if_pos hok1]
            have hgen : genAt wo.kn wo wx wy g.i = i'.g := by unfold genAt; rw [hat]; rfl
            have hcln : kl'.length ≤ g.kl.length + 273 := by have h9 := slot_len (K := wo.kn) (n := ((g.i : Nat) : Int)) (o := findI wo.its ((g.i : Nat) : Int)) (x := findI wx.its ((g.i : Nat) : Int)) (y := findI wy.its ((g.i : Nat) : Int)) (fun i hi k c hc => by have h8 := holds_fits (held_find (find_held hx0.2.2.2 hi).2.2.2.2.2 hc).2.2.2; have := (oneErr_zero h8.1).2.1; omega); rw [hkl', List.length_append]; omega
            exact ⟨LX6.mk (g.i + 1) (g.gs ++ [i'.g]) A53 c54 E55 (g.its ++ [i']) A46 c47 E48 (sP ++ g.P) kl' vA' vC' vE', (by first | omega | (dsimp only; omega)), ⟨by dsimp only; omega, by dsimp only; rw [List.length_append]; exact ho58, by dsimp only; rw [List.length_append]; exact ho51, all_snoc (fun x hx => (hii x hx).sub (orM_mono inG_right)) (IOK.sub hi' (orM_mono inG_left)), hko', by dsimp only [mIts]; rw [List.map_append, hgits, hat]; rfl, by dsimp only [mGs]; rw [hggs, hgen], by dsimp only [mCl]; rw [hkl', hgkl]; rfl, by dsimp only; omega, by simp only [List.length_append, List.length_singleton]; omega, by simp only [List.length_append, List.length_singleton]; omega⟩, ⟨(congrArg (Value.int .i64) (by (try dsimp only); omega)), rfl, rfl, rfl, rfl, rfl, rfl, rfl, trivial⟩, (by dsimp only; rw [List.length_append, List.length_append]; exact sub_picks [3, 3, 3, 0, 0, 0, 0, 0, 0, 0, 0, 0, 0, 0, 0, 0] rfl)⟩
          · have hok1 := h44
            refine s_skip ?_
            refine s_region ?_
            refine o_val rfl rfl rfl (y_field0 Try.runUnderlying47 rfl Try.sizeOf22 rfl rfl) ?_
            refine o_val rfl rfl rfl (y_load Try.isAgg22 rfl (cel_own 3 rfl rfl)) ?_
            refine o_val rfl rfl rfl (y_move (v := (.int _ _)) rfl) ?_
            refine o_lit (vs := [(0, .int _ _)]) rfl rfl (Three_k6 _) (fun b59 => ?_)
            refine o_append (sz := 1) (bytes := 8) (news := [(.int _ _)]) 4 rfl Try.underlying22 Try.type3 rfl rfl rfl rfl rfl hgo rfl rfl (Src.slice Try.underlying22 (cels_own 19 rfl rfl) rfl (by simp [Value.oneCell']) (by simp)) (by omega) (fun A60 c61 E62 ho63 hn64 => ?_)
            have ho65 : OS A60 (g.gs.length + 1) c61 3 1 ((g.gs ++ [gTo wo wx wy g.i 3]).map (.int .i64)) E62 := (os_eq ho63 (by rw [List.map_append, hv33]; rfl))
            clear ho63
            refine o_val rfl rfl rfl (y_field0 Try.runUnderlying47 rfl Try.sizeOf22 rfl rfl) ?_
            refine o_store (v := (.slice _ _ _)) 3 rfl Try.sizeOf22 rfl rfl rfl rfl ?_
            refine o_nil ?_
            refine s_norm [[(_, .cells [(.slice _ _ _)].toArray 184 (0, 0))], _, _, [(_, .cells [(.slice _ _ _), (.slice _ _ _), (.slice _ _ _)].toArray 47 (0, 0))], _, _, _, _, _, _, _, _, _, [(_, .cells [(.slice _ _ _), (.slice _ _ _), (.slice _ _ _)].toArray 47 (0, 0))], [(_, .cells [(.slice _ _ _), (.slice _ _ _), (.slice _ _ _)].toArray 47 (0, 0))], [(_, .cells [(.slice _ _ _), (.slice _ _ _), (.slice _ _ _)].toArray 47 (0, 0))], [(_, .cells [(.slice _ _ _), (.slice _ _ _), (.slice _ _ _)].toArray 47 (0, 0))], [(_, .cells [(.int _ _), (.int _ _), (.slice _ _ _)].toArray 136 (0, 0))], [(_, .cells [(.slice _ _ _), (.slice _ _ _), (.slice _ _ _), (.slice _ _ _), (.slice _ _ _), (.slice _ _ _), (.slice _ _ _), (.slice _ _ _), (.slice _ _ _)].toArray 47 (0, 0))], [(_, .cells [(.int _ _)].toArray 3 (0, 0))]] rfl ?_
            refine s_region ?_
            refine o_pull 6 ?_
            refine o_pull 3 ?_
            refine o_fuse ?_
            refine o_val rfl rfl rfl (y_add rfl rfl (by simp only [inK]; omega)) ?_
            refine o_val rfl rfl rfl (y_move (v := (.int _ _)) rfl) ?_
            refine o_nil ?_
            have hat : (mergeAt wo.kn wo wx wy g.i).1 = none := by unfold mergeAt; rw [← hok]; rw [if_neg (by rw [hok1]; exact Bool.false_ne_true)]
            have hgen : genAt wo.kn wo wx wy g.i = gTo wo wx wy g.i 3 := by unfold genAt; rw [hat]
            have hcln : kl'.length ≤ g.kl.length + 273 := by have h9 := slot_len (K := wo.kn) (n := ((g.i : Nat) : Int)) (o := findI wo.its ((g.i : Nat) : Int)) (x := findI wx.its ((g.i : Nat) : Int)) (y := findI wy.its ((g.i : Nat) : Int)) (fun i hi k c hc => by have h8 := holds_fits (held_find (find_held hx0.2.2.2 hi).2.2.2.2.2 hc).2.2.2; have := (oneErr_zero h8.1).2.1; omega); rw [hkl', List.length_append]; omega
            exact ⟨LX6.mk (g.i + 1) (g.gs ++ [gTo wo wx wy g.i 3]) A60 c61 E62 g.its g.iA g.iC g.iE (sP ++ g.P) kl' vA' vC' vE', (by first | omega | (dsimp only; omega)), ⟨by dsimp only; omega, by dsimp only; rw [List.length_append]; exact ho65, hio, fun x hx => (hii x hx).sub (orM_mono inG_right), hko', by dsimp only [mIts]; rw [hgits, hat]; exact (List.append_nil _).symm, by dsimp only [mGs]; rw [hggs, hgen], by dsimp only [mCl]; rw [hkl', hgkl]; rfl, by dsimp only; omega, by dsimp only; omega, by simp only [List.length_append, List.length_singleton]; omega⟩, ⟨(congrArg (Value.int .i64) (by (try dsimp only); omega)), rfl, rfl, rfl, rfl, rfl, rfl, rfl, trivial⟩, (by dsimp only; rw [List.length_append]; exact sub_picks [3, 3, 3, 0, 0, 0, 0, 0, 0, 0, 0, 0, 0, 0, 0, 0] rfl)⟩
      · refine s_exit ?_
        refine s_seq ?_
        refine s_pull 15 ?_
        refine s_drawn 1 (by kernel_rfl) ?_
        have hgN : g.i = (max (max wx.gn wy.gn) wo.gn) := by omega
        refine d_val (i := 0) rfl (by kernel_rfl) (by kernel_rfl) (by kernel_rfl) rfl rfl rfl (y_loads (cs := [_, _, _]) Try.isAgg47 Try.sizeOf47 rfl rfl rfl (cels_own 0 rfl rfl)) ?_
        refine d_val (i := 2) rfl (by kernel_rfl) (by kernel_rfl) (by kernel_rfl) rfl rfl rfl (y_move (v := (.pointer _)) rfl) ?_
        refine d_val (i := 3) rfl (by kernel_rfl) (by kernel_rfl) (by kernel_rfl) rfl rfl rfl (y_nilCheck rfl) ?_
        refine d_val (i := 4) rfl (by kernel_rfl) (by kernel_rfl) (by kernel_rfl) rfl rfl rfl (y_field0 Try.runUnderlying184 rfl Try.sizeOf50 rfl rfl) ?_
        refine d_val (i := 5) rfl (by kernel_rfl) (by kernel_rfl) (by kernel_rfl) rfl rfl rfl (y_load Try.isAgg50 rfl (cel_own 4 rfl rfl)) ?_
        refine d_eff (k := 1) (n := 1) (m := 15) rfl (by kernel_rfl) rfl ?_
        refine o_fn 0 (d := 125) rfl Try.call95 (CopyW_c (WR.mk w1.kA w1.kn w1.kc w1.ks g.gA g.gs.length g.gC g.gs g.iA g.its.length g.iC g.its) ⟨⟨(by have := hkO.len; rw [flat_len encK_len] at this; dsimp only; omega), hkO.2.1, (by have e := congrArg List.length hkd; simp only [List.length_map] at e; have := hkO.len; rw [flat_len encK_len] at this; dsimp only; omega), (hkO.cels (j := 7) rfl).down, fun x hx => (hkx x hx).sub (inG_ext (j := 8) rfl)⟩, ⟨rfl, hgo.2.1, by dsimp only; omega, (hgo.cels (j := 2) rfl).down⟩, ⟨rfl, hio.2.1, by dsimp only; omega, (hio.cels (j := 3) rfl).down, fun x hx => (hii x hx).sub (orM_ext (j := 4) rfl)⟩⟩) rfl ?_
        rintro _ _ ⟨w2, fKE, fKP, fGE, fIE, fCE, fVP, rfl, f1, f2, f3, f4, f5, f6, f7, f8, f9, rfl⟩
        refine o_nil ?_
        refine d_eff (k := 6) (n := 7) (m := 15) rfl (by kernel_rfl) rfl ?_
        refine o_stores (vs := [(.slice _ _ _), (.slice _ _ _), (.slice _ _ _)]) 6 rfl Try.sizeOf47 rfl rfl rfl (by simp [Value.oneCell']) (by simp) ?_
        refine o_nil ?_
        refine d_val (i := 7) rfl (by kernel_rfl) (by kernel_rfl) (by kernel_rfl) rfl rfl rfl (y_assign (v := (.slice _ _ _)) rfl) ?_
        refine d_val (i := 8) rfl (by kernel_rfl) (by kernel_rfl) (by kernel_rfl) rfl rfl rfl (y_assign (v := (.int _ _)) rfl) ?_
        refine d_nil (n := 7) (m := 15) (by kernel_rfl) rfl ?_
        refine s_norm [_, _, _, _, _, _, [(_, .cells [(.slice _ _ _), (.slice _ _ _), (.slice _ _ _)].toArray 47 (0, 0))], [(_, .cells [(.slice _ _ _), (.slice _ _ _), (.slice _ _ _)].toArray 47 (0, 0))], _, _, _, [(_, .cells [(.slice _ _ _)].toArray 184 (0, 0))], _, _, _, _, _, _, _, [(_, .cells [(.slice _ _ _), (.slice _ _ _), (.slice _ _ _)].toArray 47 (0, 0))], [(_, .cells [(.slice _ _ _), (.slice _ _ _), (.slice _ _ _)].toArray 47 (0, 0))], [(_, .cells [(.slice _ _ _), (.slice _ _ _), (.slice _ _ _)].toArray 47 (0, 0))]] rfl ?_
        refine s_forget [(6, (.pointer _)), (7, (.slice _ _ _)), (8, (.int _ _))] ⟨rfl, rfl, rfl, trivial⟩ (fun _f => ?_)
        refine s_ret ?_
        exact ⟨_, [fKE, fKP, fGE, fIE, fCE, fVP, g.cE], resv3 rfl (RV.cells (cs := [_, _, _]) rfl Try.isAgg47 Try.sizeOf47 rfl rfl (cels_own 6 rfl rfl)) (RV.tmp rfl) (RV.tmp rfl), .inr ⟨hte, w2, _, _, _, _, _, _, g.kl, _, _, _, rfl, f1, f2, f3, f4, f5, f6, f7.trans hkd, f8.trans (hggs.trans (by rw [hgN])), f9.trans (hgits.trans (by rw [hgN])), hgkl.trans (by rw [hgN]), hko, rfl⟩, sub_picks [0, 0, 0, 0, 0, 0, 6] rfl⟩

end Go.Proofs.Ytacmbiohjiogiaa.K
