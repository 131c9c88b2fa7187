/- Walks over the package tourkeep4: templates drawn. No condition beyond what each statement names. -/
import Derived.Test.YtacmbiohjiogiaaProg
import Derived.Test.YtacmbiohjiogiaaK19
import Derived.Test.YtacmbiohjiogiaaM1
import Derived.Test.YtacmbiohjiogiaaM2
import Derived.Test.YtacmbiohjiogiaaW1
import Derived.Test.YtacmbiohjiogiaaW2
import Derived.Test.YtacmbiohjiogiaaW3
import Derived.Test.YtacmbiohjiogiaaW4
import Derived.Test.YtacmbiohjiogiaaW5
import Derived.Test.YtacmbiohjiogiaaW6
import Derived.Test.YtacmbiohjiogiaaW7
import Derived.Test.YtacmbiohjiogiaaX1
import Derived.Test.YtacmbiohjiogiaaP1
import Derived.Test.YtacmbiohjiogiaaP2
import Derived.Test.YtacmbiohjiogiaaP3
import Derived.Test.YtacmbiohjiogiaaP4
import Derived.Test.YtacmbiohjiogiaaP5
set_option linter.unusedVariables false
set_option linter.unusedSimpArgs false
set_option maxRecDepth 100000
set_option maxHeartbeats 1000000
namespace Go.Proofs.Ytacmbiohjiogiaa.K
open Go.RowKit

theorem getD_before {α : Type} {xs ys : List α} {j : Nat} {d : α} (h : j < xs.length) : (xs ++ ys).getD j d = xs.getD j d := by
  rw [List.getD_eq_getElem?_getD, List.getD_eq_getElem?_getD, List.getElem?_append_left h]
theorem rawsV_snoc (ks : List KR) (ts : List TV) (t : TV) : ∀ n, n ≤ ts.length → rawsV ks (ts ++ [t]) n = rawsV ks ts n
  | 0, _ => rfl
  | n + 1, h => by simp only [rawsV]; rw [rawsV_snoc ks ts t n (by omega), getD_before (by omega)]
theorem rawV_snoc {ks : List KR} {ts : List TV} {t : TV} {n : Nat} (h : n < ts.length) : rawV ks (ts ++ [t]) n = rawV ks ts n := by
  unfold rawV; rw [rawsV_snoc ks ts t (n + 1) (by omega)]
theorem useV_snoc {ks : List KR} {ts : List TV} {t : TV} {q : Int × List OV} (h : q.1.toNat < ts.length) : useV ks (ts ++ [t]) q = useV ks ts q := by
  unfold useV; rw [rawV_snoc h]
theorem goodT_snoc {ks : List KR} {ts : List TV} {t : TV} {n : Nat} (hn : n < ts.length) (h : goodT ks ts n) : goodT ks (ts ++ [t]) n := by
  unfold goodT at h ⊢
  rw [getD_before hn]
  refine ⟨h.1, fun k hk => ?_⟩
  obtain ⟨h1, h2, h3, h4⟩ := h.2 k hk
  exact ⟨h1, h2, h3, by rw [useV_snoc (by omega)]; exact h4⟩
/-- A part of a template behind those of 'l'. -/
def partG (ks : List KR) (l : List PfR) (y : PaR) : Prop := 0 ≤ y.of ∧ y.of < l.length ∧ y.os.length ≤ 40 ∧ ∃ bs, useV ks (l.map PfR.d) y.d = .ok bs
theorem okTs_snoc {ks : List KR} {l : List PfR} {t : PfR} (h : okTs ks l) (hl : l.length < 4) (hp : t.ps.length ≤ 2) (hq : ∀ y ∈ t.ps, partG ks l y) (hc : heldP ks t.cs) : okTs ks (l ++ [t]) := by
  have e : (l ++ [t]).map PfR.d = l.map PfR.d ++ [t.d] := by simp
  have hm : (l.map PfR.d).length = l.length := by simp
  refine ⟨by simp; omega, fun i hi => ?_, fun i hi => ?_⟩
  · rw [List.length_append, List.length_singleton] at hi
    rw [e]
    by_cases hh : i = l.length
    · have e2 : (l.map PfR.d ++ [t.d]).getD i default = t.d := by rw [getD_snoc (by omega), if_pos (by omega)]
      unfold goodT
      rw [e2]
      have e3 : t.d.2 = t.ps.map PaR.d := rfl
      rw [e3]
      refine ⟨by simpa using hp, fun k hk => ?_⟩
      have hk' : k < t.ps.length := by simpa using hk
      rw [paget]
      obtain ⟨h1, h2, h3, h4⟩ := hq _ (getD_mem' hk' : t.ps.getD k default ∈ t.ps)
      exact ⟨h1, by rw [hh]; exact h2, by simpa [PaR.d] using h3, by rw [useV_snoc (by have e4 : (t.ps.getD k default).d.1 = (t.ps.getD k default).of := rfl; rw [e4]; omega)]; exact h4⟩
    · exact goodT_snoc (by omega) (h.2.1 i (by omega))
  · rw [List.length_append, List.length_singleton] at hi
    rw [getD_snoc hi]
    by_cases hh : i = l.length
    · rw [if_pos hh]; exact hc
    · rw [if_neg hh]; exact h.2.2 i (by omega)
theorem mkTo_head (ks : List KR) (r : List (List BV)) (t : TV) : ∀ k, ∃ rest, mkTo ks r t k = ([], t.1) :: rest
  | 0 => ⟨[], rfl⟩
  | k + 1 => by
    obtain ⟨rest, h⟩ := mkTo_head ks r t k
    exact ⟨_, by simp only [mkTo]; rw [h, List.cons_append]⟩
theorem rawV_head (ks : List KR) (ts : List TV) (n : Nat) : ∃ rest, rawV ks ts n = ([], (ts.getD n default).1) :: rest := by
  rw [rawV_eq]; exact mkTo_head _ _ _ _
/-- One replacement of the first value of a template's own first component. -/
theorem use_one {ks : List KR} {l : List PfR} {o : Int} (h0 : 0 ≤ o) {v : Int} (hc : 0 < (l.getD o.toNat default).cs.length) (hv : 0 < ((l.getD o.toNat default).cs.getD 0 default).vs.length) (hf : fitsV (fldOf ks ((l.getD o.toNat default).cs.getD 0 default).kind 0) v) :
    ∃ bs, useV ks (l.map PfR.d) (o, [([], ((l.getD o.toNat default).cs.getD 0 default).kind, 0, v)]) = .ok bs := by
  obtain ⟨rest, hr⟩ := rawV_head ks (l.map PfR.d) o.toNat
  rw [tget] at hr
  unfold useV
  simp only [hr, PfR.d]
  cases hcs : (l.getD o.toNat default).cs with
  | nil => rw [hcs] at hc; simp at hc
  | cons c cs =>
    rw [hcs] at hf hv
    have e0 : (c :: cs).getD 0 default = c := rfl
    rw [e0] at hf hv ⊢
    have hv' : ¬ ((0 : Int) < 0 ∨ ((c.vs.length : Nat) : Int) ≤ 0) := by omega
    simp only [oversV, overV, pIdx, cIdx, List.findIdx?_cons, decide_true, if_true, List.map_cons, CR.d, List.getD_cons_zero]
    rw [if_neg hv', if_pos hf]
    exact ⟨_, rfl⟩
structure LP6 where
  l : List PfR
  A : Option Addr
  c : Nat
  E : Grp
  P : Grp
  S : Grp
structure LC6 where
  i : Nat
  cs : List CR
  A : Option Addr
  c : Nat
  E : Grp
  P : Grp
  S : Grp
structure LQ6 where
  k : Nat
  ps : List PaR
  A : Option Addr
  c : Nat
  E : Grp
  P : Grp
  S : Grp

theorem GenP_k0 (v0A : Option Addr) (v0n : Nat) (v0c : Nat) (w : World) : (Instr.build 174 ([(0, (.slice v0A v0n v0c))] : List (Nat × Value)).toArray).run Try.prog w = .ok (.agg #[.slice v0A v0n v0c]) w := by kernel_rfl
theorem GenP_k1 (w : World) : (Instr.build 38 ([] : List (Nat × Value)).toArray).run Try.prog w = .ok (.agg #[.slice none 0 0, .slice none 0 0]) w := by kernel_rfl
theorem GenP_k2 (v0 : Int) (w : World) : (Instr.build 155 ([(0, (.int .i64 v0))] : List (Nat × Value)).toArray).run Try.prog w = .ok (.agg #[.int .i64 v0, .slice none 0 0]) w := by kernel_rfl
theorem GenP_k3 (v0 : Int) (w : World) : (Instr.buildSlice 22 1 ([(0, (.int .i64 v0))] : List (Nat × Value)).toArray).run Try.prog w = .ok (.slice (some ⟨w.heap.size, 0, none⟩) 1 1) { w with heap := w.heap.push (.cells ([.int .i64 v0] : List Value).toArray 3 (0, 0)) } := by kernel_rfl
theorem GenP_k4 (v0x0 : Int) (v0x1A : Option Addr) (v0x1n : Nat) (v0x1c : Nat) (w : World) : (Instr.buildSlice 33 1 ([(0, (.agg #[(.int .i64 v0x0), (.slice v0x1A v0x1n v0x1c)]))] : List (Nat × Value)).toArray).run Try.prog w = .ok (.slice (some ⟨w.heap.size, 0, none⟩) 1 1) { w with heap := w.heap.push (.cells ([.int .i64 v0x0, .slice v0x1A v0x1n v0x1c] : List Value).toArray 155 (0, 0)) } := by kernel_rfl
theorem GenP_k5 (v0x0A : Option Addr) (v0x0n : Nat) (v0x0c : Nat) (v0x1A : Option Addr) (v0x1n : Nat) (v0x1c : Nat) (w : World) : (Instr.buildSlice 25 1 ([(0, (.agg #[(.slice v0x0A v0x0n v0x0c), (.slice v0x1A v0x1n v0x1c)]))] : List (Nat × Value)).toArray).run Try.prog w = .ok (.slice (some ⟨w.heap.size, 0, none⟩) 1 1) { w with heap := w.heap.push (.cells ([.slice v0x0A v0x0n v0x0c, .slice v0x1A v0x1n v0x1c] : List Value).toArray 38 (0, 0)) } := by kernel_rfl
theorem GenP_k6 (v0 : Int) (w : World) : (Instr.build 41 ([(0, (.int .i64 v0))] : List (Nat × Value)).toArray).run Try.prog w = .ok (.agg #[.int .i64 v0, .slice none 0 0]) w := by kernel_rfl
theorem GenP_k7 (v0 : Int) (w : World) : (Instr.build 145 ([(0, (.int .i64 v0))] : List (Nat × Value)).toArray).run Try.prog w = .ok (.agg #[.int .i64 v0, .int .i64 0]) w := by kernel_rfl
theorem GenP_k8 (v1x0 : Int) (v1x1 : Int) (v2 : Int) (w : World) : (Instr.build 147 ([(1, (.agg #[(.int .i64 v1x0), (.int .i64 v1x1)])), (2, (.int .i64 v2))] : List (Nat × Value)).toArray).run Try.prog w = .ok (.agg #[.slice none 0 0, .int .i64 v1x0, .int .i64 v1x1, .int .i64 v2]) w := by kernel_rfl
theorem GenP_k9 (v0x0A : Option Addr) (v0x0n : Nat) (v0x0c : Nat) (v0x1 : Int) (v0x2 : Int) (v0x3 : Int) (w : World) : (Instr.buildSlice 39 1 ([(0, (.agg #[(.slice v0x0A v0x0n v0x0c), (.int .i64 v0x1), (.int .i64 v0x2), (.int .i64 v0x3)]))] : List (Nat × Value)).toArray).run Try.prog w = .ok (.slice (some ⟨w.heap.size, 0, none⟩) 1 1) { w with heap := w.heap.push (.cells ([.slice v0x0A v0x0n v0x0c, .int .i64 v0x1, .int .i64 v0x2, .int .i64 v0x3] : List Value).toArray 147 (0, 0)) } := by kernel_rfl
theorem GenP_k10 (v0x0 : Int) (v0x1A : Option Addr) (v0x1n : Nat) (v0x1c : Nat) (w : World) : (Instr.buildSlice 36 1 ([(0, (.agg #[(.int .i64 v0x0), (.slice v0x1A v0x1n v0x1c)]))] : List (Nat × Value)).toArray).run Try.prog w = .ok (.slice (some ⟨w.heap.size, 0, none⟩) 1 1) { w with heap := w.heap.push (.cells ([.int .i64 v0x0, .slice v0x1A v0x1n v0x1c] : List Value).toArray 41 (0, 0)) } := by kernel_rfl
theorem GenP_c {V : Mem} (kA : Option Addr) (nK cK : Nat) (ks : List KR) (hks : KsOK V kA nK cK ks) (hkg : kindsG ks) (A : Option Addr) (n c : Nat) (xs : List Int) (h : Cels V [] A (xs.map (.int .i64))) (hn : xs.length = n) (hc : n ≤ c) : CallS Try.prog 17 [.slice kA nK cK, .slice A n c].toArray V [] (fun r L' => ∃ (lA : Option Addr) (lc : Nat) (l : List PfR) (E P : Grp), r = .slice lA l.length lc ∧ OS lA l.length lc 38 2 ((l).flatMap encPf) E ∧ (∀ x ∈ l, PfOK (inG P) x) ∧ okTs ks l ∧ 1 ≤ l.length ∧ L' = [E, P]) := by
  have hck := kindsG_ok hkg
  obtain ⟨hKl, hKc, hKb, hK, hKK⟩ := hks
  refine callS Try.func17 rfl rfl (fun w0 => ?_)
  refine s_seq ?_
  refine s_region ?_
  refine o_val rfl rfl rfl (y_assign (v := (.slice _ _ _)) rfl) ?_
  refine o_nil ?_
  refine s_seq ?_
  refine s_region ?_
  refine o_val rfl rfl rfl (y_move (v := (.slice _ _ _)) rfl) ?_
  refine o_val rfl rfl rfl (y_build (vs := [(0, .slice _ _ _)]) rfl (GenP_k0 _ _ _)) ?_
  refine o_box (v := (.agg #[(.slice _ _ _)])) rfl rfl rfl (fun b1 => ?_)
  refine o_val rfl rfl rfl (y_assign (v := (.pointer _)) rfl) ?_
  refine o_nil ?_
  refine s_seq ?_
  refine s_region ?_
  refine o_val rfl rfl rfl (y_assign (v := (.slice _ _ _)) rfl) ?_
  refine o_nil ?_
  refine s_seq ?_
  refine s_seq ?_
  refine s_region ?_
  have hst : Strm V b1 (stgrp b1 A n c) := Strm.new h hn hc
  refine o_val rfl rfl rfl (y_move (v := (.pointer _)) rfl) ?_
  refine o_fn 1 (d := 21) rfl Try.call87 (NextS_c hst (hm0 := MSub.ext) 4 (by omega)) rfl ?_
  rintro _ _ ⟨kn, sG', rfl, hkn0, hkn1, hst, rfl⟩
  refine o_val rfl rfl rfl (y_add rfl rfl (by simp only [inK]; omega)) ?_
  refine o_val rfl rfl rfl (y_move (v := (.int _ _)) rfl) ?_
  refine o_nil ?_
  refine s_block ?_
  refine s_group ?_
  refine s_group ?_
  refine s_loopK (γ := LP6) [(0, (.slice _ _ _)), (4, (.slice _ _ _)), (5, (.pointer _)), (22, (.int _ _))] [] (fun g => [(6, .slice g.A g.l.length g.c), (23, .int .i64 g.l.length)]) (fun g => [g.S, g.E, g.P]) (fun g => ((g.l.length : Nat) : Int) ≤ 1 + kn ∧ OS g.A g.l.length g.c 38 2 ((g.l).flatMap encPf) g.E ∧ (∀ x ∈ g.l, PfOK (inG g.P) x) ∧ okTs ks g.l ∧ Strm V b1 g.S) (fun g => (1 + kn - g.l.length).toNat) (LP6.mk [] none 0 [] [] sG') ⟨rfl, rfl, rfl, rfl, rfl, rfl, trivial⟩ (sub_picks [0, 0, 0] rfl) ?_ ?_
  · exact ⟨by dsimp only [List.length_nil]; omega, OS.nil _ _, fun x hx => absurd hx List.not_mem_nil, ⟨Nat.zero_le _, fun i hi => absurd hi (Nat.not_lt_zero i), fun i hi => absurd hi (Nat.not_lt_zero i)⟩, hst⟩
  intro g _f hI
  refine s_norm _ (by simp only [pull, picks, setG, List.cons_append, List.nil_append, List.append_nil, List.drop_succ_cons, List.drop_zero]; rfl) ?_
  obtain ⟨hgl, hlo, hlp, hlk, hst⟩ := hI
  refine s_seq ?_
  refine s_region ?_
  refine o_val rfl rfl rfl (y_lss rfl rfl) ?_
  refine o_nil ?_
  refine s_seq ?_
  refine s_if rfl (fun h2 => ?_) (fun h3 => ?_)
  · refine s_skip ?_
    refine s_seq ?_
    refine s_block ?_
    refine s_seq ?_
    refine s_region ?_
    refine o_val rfl rfl rfl (y_move (v := (.int _ _)) rfl) ?_
    refine o_val rfl rfl rfl (y_assign (v := (.int _ _)) rfl) ?_
    refine o_nil ?_
    refine s_seq ?_
    refine s_region ?_
    refine o_val rfl rfl rfl (y_build (vs := []) rfl (GenP_k1)) ?_
    refine o_alloc rfl Try.zeroValue38 rfl (fun b4 => ?_)
    refine o_stores (vs := [(.slice _ _ _), (.slice _ _ _)]) 3 rfl Try.sizeOf38 rfl rfl rfl (by simp [Value.oneCell']) (by simp) ?_
    refine o_nil ?_
    refine s_seq ?_
    refine s_seq ?_
    refine s_region ?_
    have hkn2 := hkn1 (by decide)
    refine o_val rfl rfl rfl (y_move (v := (.slice _ _ _)) rfl) ?_
    refine o_val rfl rfl rfl (y_len Try.runUnderlying23 rfl) ?_
    refine o_val rfl rfl rfl (y_move (v := (.int _ _)) rfl) ?_
    refine o_nil ?_
    refine s_block ?_
    refine s_group ?_
    refine s_loopK (γ := LC6) [(0, (.slice _ _ _)), (4, (.slice _ _ _)), (5, (.pointer _)), (6, (.slice _ _ _)), (7, (.int _ _)), (8, (.pointer _)), (22, (.int _ _)), (23, (.int _ _)), (27, (.slice _ _ _)), (28, (.int _ _))] [_] (fun u => [(29, .int .i64 u.i)]) (fun u => [u.S, [(b4, .cells [.slice u.A u.cs.length u.c, .slice none 0 0].toArray 38 (0, 0))], u.E, u.P]) (fun u => u.i ≤ nK ∧ OS u.A u.cs.length u.c 155 2 ((u.cs).flatMap encC) u.E ∧ (∀ y ∈ u.cs, COK (inG u.P) y) ∧ heldP ks u.cs ∧ (∀ y ∈ u.cs, y.kind < u.i) ∧ u.cs.length ≤ u.i ∧ Strm V b1 u.S ∧ MSub (inG g.P) (inG u.P)) (fun u => nK - u.i) (LC6.mk 0 [] none 0 [] g.P g.S) ⟨rfl, rfl, rfl, rfl, rfl, rfl, rfl, rfl, rfl, rfl, rfl, trivial⟩ (sub_picks [0, 2, 2, 1, 0] rfl) ?_ ?_
    · exact ⟨Nat.zero_le _, OS.nil _ _, fun y hy => absurd hy List.not_mem_nil, fun j hj => absurd hj (Nat.not_lt_zero j), fun y hy => absurd hy List.not_mem_nil, Nat.zero_le _, hst, MSub.refl⟩
    intro u _f hJ
    refine s_norm _ (by simp only [pull, picks, setG, List.cons_append, List.nil_append, List.append_nil, List.drop_succ_cons, List.drop_zero]; rfl) ?_
    obtain ⟨hui, hco, hcx, hch, hck2, hcl, hst, hmu⟩ := hJ
    refine s_seq ?_
    refine s_region ?_
    refine o_val rfl rfl rfl (y_lss rfl rfl) ?_
    refine o_nil ?_
    refine s_seq ?_
    refine s_if rfl (fun h5 => ?_) (fun h6 => ?_)
    · refine s_skip ?_
      refine s_seq ?_
      refine s_block ?_
      refine s_seq ?_
      refine s_region ?_
      refine o_val rfl rfl rfl (y_move (v := (.int _ _)) rfl) ?_
      refine o_val rfl rfl rfl (y_indexAddr Try.runUnderlying23 Try.sizeOf58 (some_at (sz := 1) encK_len (i := 0) hK (by omega)) rfl rfl (by omega)) ?_
      refine o_val rfl rfl rfl (y_loads (cs := [_, _]) Try.isAgg58 Try.sizeOf58 rfl (by unfold idx; rw [Option.isSome_map]; exact some_at (sz := 1) encK_len (i := 0) hK (by omega)) rfl (cels_at (sz := 2) encK_len hK.here (by omega))) ?_
      refine o_alloc rfl Try.zeroValue58 rfl (fun b7 => ?_)
      refine o_val rfl rfl rfl (y_assign (v := (.int _ _)) rfl) ?_
      refine o_stores (vs := [(.string _), (.slice _ _ _)]) 5 rfl Try.sizeOf58 rfl rfl rfl (by simp [Value.oneCell']) (by simp) ?_
      refine o_nil ?_
      refine s_norm [_, [(_, .cells [(.slice _ _ _), (.slice _ _ _)].toArray 38 (0, 0))], _, _, _, [(_, .cells [(.string _), (.slice _ _ _)].toArray 58 (0, 0))]] rfl ?_
      refine s_seq ?_
      refine s_seq ?_
      refine s_region ?_
      have hkk := hKK _ (getD_mem' (show u.i < ks.length by omega) : (ks.getD ((u.i : Nat) : Int).toNat default) ∈ ks)
      have hone : oneErr (ks.getD ((u.i : Nat) : Int).toNat default) = 0 := ck_one hck (j := u.i) (by omega)
      have hfl := hkk.1
      have hfb := hkk.2.2.1
      refine o_val rfl rfl rfl (y_move (v := (.pointer _)) rfl) ?_
      refine o_fn 1 (d := 35) rfl Try.call87 (NextS_c hst (hm0 := MSub.ext) 3 (by omega)) rfl ?_
      rintro _ _ ⟨k3, sG', rfl, hk30, hk31, hst, rfl⟩
      refine o_val rfl rfl rfl (y_eql rfl rfl) ?_
      refine o_nil ?_
      refine s_if rfl (fun h8 => ?_) (fun h9 => ?_)
      · refine s_exit ?_
        refine s_region ?_
        refine o_val rfl rfl rfl (y_add rfl rfl (by simp only [inK]; omega)) ?_
        refine o_val rfl rfl rfl (y_move (v := (.int _ _)) rfl) ?_
        refine o_nil ?_
        exact ⟨LC6.mk (u.i + 1) u.cs u.A u.c u.E u.P sG', (by first | omega | (dsimp only; omega)), ⟨by dsimp only; omega, hco, hcx, hch, fun y hy => by have := hck2 y hy; dsimp only; omega, by dsimp only; omega, hst, hmu⟩, ⟨(congrArg (Value.int .i64) (by (try dsimp only); omega)), rfl, rfl, rfl, rfl, rfl, rfl, rfl, rfl, rfl, rfl, trivial⟩, (sub_picks [0, 0, 0, 0, 0] rfl)⟩
      · refine s_skip ?_
        refine s_seq ?_
        refine s_region ?_
        refine o_val rfl rfl rfl (y_move (v := (.int _ _)) rfl) ?_
        refine o_val rfl rfl rfl (y_build (vs := [(0, .int _ _)]) rfl (GenP_k2 _)) ?_
        refine o_alloc rfl Try.zeroValue155 rfl (fun b10 => ?_)
        refine o_stores (vs := [(.int _ _), (.slice _ _ _)]) 6 rfl Try.sizeOf155 rfl rfl rfl (by simp [Value.oneCell']) (by simp) ?_
        refine o_nil ?_
        refine s_seq ?_
        refine s_seq ?_
        refine s_region ?_
        refine o_val rfl rfl rfl (y_field0 Try.runUnderlying58 rfl Try.sizeOf56 rfl rfl) ?_
        refine o_val rfl rfl rfl (y_load Try.isAgg56 rfl (cel_own 5 rfl rfl)) ?_
        refine o_val rfl rfl rfl (y_len Try.runUnderlying56 rfl) ?_
        refine o_val rfl rfl rfl (y_move (v := (.int _ _)) rfl) ?_
        refine o_nil ?_
        refine s_forget [(0, (.slice _ _ _)), (4, (.slice _ _ _)), (5, (.pointer _)), (6, (.slice _ _ _)), (7, (.int _ _)), (8, (.pointer _)), (11, (.pointer _)), (22, (.int _ _)), (23, (.int _ _)), (27, (.slice _ _ _)), (28, (.int _ _)), (29, (.int _ _)), (40, (.slice _ _ _)), (41, (.int _ _)), (42, (.int _ _))] ⟨rfl, rfl, rfl, rfl, rfl, rfl, rfl, rfl, rfl, rfl, rfl, rfl, rfl, rfl, rfl, trivial⟩ (fun _f => ?_)
        refine s_block ?_
        refine s_group ?_
        refine s_loopK (γ := LF7) [(0, (.slice _ _ _)), (4, (.slice _ _ _)), (5, (.pointer _)), (6, (.slice _ _ _)), (7, (.int _ _)), (8, (.pointer _)), (11, (.pointer _)), (22, (.int _ _)), (23, (.int _ _)), (27, (.slice _ _ _)), (28, (.int _ _)), (29, (.int _ _)), (40, (.slice _ _ _)), (41, (.int _ _))] [_, _, _, _] (fun w => [(42, .int .i64 w.vs.length)]) (fun w => [w.S, w.E, [(b10, .cells [.int .i64 ((u.i : Nat) : Int), .slice w.A w.vs.length w.c].toArray 155 (0, 0))]]) (fun w => w.vs.length ≤ (ks.getD ((u.i : Nat) : Int).toNat default).n ∧ OS w.A w.vs.length w.c 3 1 ((w.vs).map (.int .i64)) w.E ∧ (∀ j, j < w.vs.length → fitsV ((ks.getD ((u.i : Nat) : Int).toNat default).fs.getD j default) (w.vs.getD j 0)) ∧ Strm V b1 w.S) (fun w => (ks.getD ((u.i : Nat) : Int).toNat default).n - w.vs.length) (LF7.mk [] none 0 [] sG') ⟨rfl, rfl, rfl, rfl, rfl, rfl, rfl, rfl, rfl, rfl, rfl, rfl, rfl, rfl, rfl, trivial⟩ (sub_picks [0, 6, 5, 0, 0, 0, 0] rfl) ?_ ?_
        · exact ⟨Nat.zero_le _, OS.nil _ _, fun j hj => absurd hj (Nat.not_lt_zero j), hst⟩
        intro w _f hW
        refine s_norm _ (by simp only [pull, picks, setG, List.cons_append, List.nil_append, List.append_nil, List.drop_succ_cons, List.drop_zero]; rfl) ?_
        obtain ⟨hul, hvo, hfit, hst⟩ := hW
        refine s_seq ?_
        refine s_region ?_
        refine o_val rfl rfl rfl (y_lss rfl rfl) ?_
        refine o_nil ?_
        refine s_seq ?_
        refine s_if rfl (fun h11 => ?_) (fun h12 => ?_)
        · refine s_skip ?_
          refine s_seq ?_
          refine s_block ?_
          refine s_seq ?_
          refine s_region ?_
          refine o_val rfl rfl rfl (y_indexAddr Try.runUnderlying56 Try.sizeOf61 (some_at (sz := 2) encF_len (i := 0) hkk.2.2.2 (by omega)) rfl rfl (by omega)) ?_
          refine o_val rfl rfl rfl (y_loads (cs := [_, _, _]) Try.isAgg61 Try.sizeOf61 rfl (by unfold idx; rw [Option.isSome_map]; exact some_at (sz := 2) encF_len (i := 0) hkk.2.2.2 (by omega)) rfl (cels_at (sz := 3) encF_len hkk.2.2.2.here (by omega))) ?_
          refine o_alloc rfl Try.zeroValue61 rfl (fun b13 => ?_)
          refine o_stores (vs := [(.string _), (.int _ _), (.int _ _)]) 7 rfl Try.sizeOf61 rfl rfl rfl (by simp [Value.oneCell']) (by simp) ?_
          refine o_nil ?_
          refine s_norm [_, _, [(_, .cells [(.int _ _), (.slice _ _ _)].toArray 155 (0, 0))], [(_, .cells [(.slice _ _ _), (.slice _ _ _)].toArray 38 (0, 0))], _, _, _, [(_, .cells [(.string _), (.int _ _), (.int _ _)].toArray 61 (0, 0))]] rfl ?_
          refine s_pull 2 ?_
          refine s_pull 2 ?_
          refine s_pull 2 ?_
          refine s_drawn 3 (by kernel_rfl) ?_
          refine d_val (i := 0) rfl (by kernel_rfl) (by kernel_rfl) (by kernel_rfl) rfl rfl rfl (y_field0 Try.runUnderlying155 rfl Try.sizeOf22 rfl rfl) ?_
          have hfok : fOK ((ks.getD ((u.i : Nat) : Int).toNat default).fs.getD ((w.vs.length : Nat) : Int).toNat default) := one_field hone (by omega)
          have hp := pow_bd ⟨hfok.2.1, hfok.2.2.1⟩
          have hlo := hfok.2.2.2
          refine d_val (i := 2) rfl (by kernel_rfl) (by kernel_rfl) (by kernel_rfl) rfl rfl rfl (y_field0 Try.runUnderlying61 rfl Try.sizeOf3 rfl rfl) ?_
          refine d_val (i := 3) rfl (by kernel_rfl) (by kernel_rfl) (by kernel_rfl) rfl rfl rfl (y_load Try.isAgg3 rfl (cel_own 4 rfl rfl)) ?_
          refine d_val (i := 4) rfl (by kernel_rfl) (by kernel_rfl) (by kernel_rfl) rfl rfl rfl (y_move (v := (.pointer _)) rfl) ?_
          refine d_val (i := 5) rfl (by kernel_rfl) (by kernel_rfl) (by kernel_rfl) rfl rfl rfl (y_field0 Try.runUnderlying61 rfl Try.sizeOf3 rfl rfl) ?_
          refine d_val (i := 6) rfl (by kernel_rfl) (by kernel_rfl) (by kernel_rfl) rfl rfl rfl (y_load Try.isAgg3 rfl (cel_own 4 rfl rfl)) ?_
          refine d_val (i := 7) rfl (by kernel_rfl) (by kernel_rfl) (by kernel_rfl) rfl rfl rfl ((y_shl rfl rfl (by have := hfok.2.1; omega)).int (pow_bits ⟨hfok.2.1, hfok.2.2.1⟩)) ?_
          refine d_eff2 (k := 1) (k' := 8) (n := 3) (m := 5) rfl rfl (by kernel_rfl) rfl ?_ ?_
          · refine o_val rfl rfl rfl (y_load Try.isAgg22 rfl (cel_own 2 rfl rfl)) ?_
            refine o_nil ?_
            refine d_eff (k := 8) (n := 3) (m := 5) rfl (by kernel_rfl) rfl ?_
            refine o_fn 1 (d := 54) rfl Try.call87 (NextS_c hst (hm0 := MSub.ext) _ (by omega)) rfl ?_
            rintro _ _ ⟨kv, sG', rfl, hkv0, hkv1, hst, rfl⟩
            refine o_nil ?_
            refine d_val (i := 9) rfl (by kernel_rfl) (by kernel_rfl) (by kernel_rfl) rfl rfl rfl (y_add rfl rfl (by have := hkv1 (by omega); simp only [inK]; omega)) ?_
            refine d_eff (k := 10) (n := 3) (m := 5) rfl (by kernel_rfl) rfl ?_
            refine o_lit (vs := [(0, .int _ _)]) rfl rfl (GenP_k3 _) (fun b14 => ?_)
            refine o_nil ?_
            refine d_eff (k := 11) (n := 3) (m := 5) rfl (by kernel_rfl) rfl ?_
            refine o_append (sz := 1) (bytes := 8) (news := [(.int _ _)]) 1 rfl Try.underlying22 Try.type3 rfl rfl rfl rfl rfl hvo rfl rfl (Src.slice Try.underlying22 (cels_own 8 rfl rfl) rfl (by simp [Value.oneCell']) (by simp)) (by omega) (fun A15 c16 E17 ho18 hn19 => ?_)
            have ho20 : OS A15 (w.vs.length + 1) c16 3 1 ((w.vs ++ [((ks.getD ((u.i : Nat) : Int).toNat default).fs.getD ((w.vs.length : Nat) : Int).toNat default).low + kv]).map (.int .i64)) E17 := (os_eq ho18 (by rw [List.map_append]; rfl))
            clear ho18
            refine o_nil ?_
            refine d_val (i := 12) rfl (by kernel_rfl) (by kernel_rfl) (by kernel_rfl) rfl rfl rfl (y_field0 Try.runUnderlying155 rfl Try.sizeOf22 rfl rfl) ?_
            refine d_eff (k := 13) (n := 3) (m := 5) rfl (by kernel_rfl) rfl ?_
            refine o_store (v := (.slice _ _ _)) 2 rfl Try.sizeOf22 rfl rfl rfl rfl ?_
            refine o_nil ?_
            refine d_nil (n := 3) (m := 5) (by kernel_rfl) rfl ?_
            refine s_norm [_, _, [(_, .cells [(.int _ _), (.slice _ _ _)].toArray 155 (0, 0))], [(_, .cells [(.slice _ _ _), (.slice _ _ _)].toArray 38 (0, 0))], _, _, _, [(_, .cells [(.string _), (.int _ _), (.int _ _)].toArray 61 (0, 0))], [(_, .cells [(.int _ _)].toArray 3 (0, 0))]] rfl ?_
            refine s_forget [(0, (.slice _ _ _)), (4, (.slice _ _ _)), (5, (.pointer _)), (6, (.slice _ _ _)), (7, (.int _ _)), (8, (.pointer _)), (11, (.pointer _)), (22, (.int _ _)), (23, (.int _ _)), (27, (.slice _ _ _)), (28, (.int _ _)), (29, (.int _ _)), (40, (.slice _ _ _)), (41, (.int _ _)), (42, (.int _ _))] ⟨rfl, rfl, rfl, rfl, rfl, rfl, rfl, rfl, rfl, rfl, rfl, rfl, rfl, rfl, rfl, trivial⟩ (fun _f => ?_)
            refine s_region ?_
            refine o_val rfl rfl rfl (y_add rfl rfl (by simp only [inK]; omega)) ?_
            refine o_val rfl rfl rfl (y_move (v := (.int _ _)) rfl) ?_
            refine o_nil ?_
            exact ⟨LF7.mk (w.vs ++ [((ks.getD ((u.i : Nat) : Int).toNat default).fs.getD ((w.vs.length : Nat) : Int).toNat default).low + kv]) A15 c16 E17 sG', (by simp only [List.length_append, List.length_singleton]; omega), ⟨by simp only [List.length_append, List.length_singleton]; omega, by dsimp only; rw [List.length_append]; exact ho20, fits_snoc hfit (fits_low hfok hkv0 (hkv1 (by omega))), hst⟩, ⟨(congrArg (Value.int .i64) (by simp only [List.length_append, List.length_singleton]; omega)), rfl, rfl, rfl, rfl, rfl, rfl, rfl, rfl, rfl, rfl, rfl, rfl, rfl, rfl, trivial⟩, (by dsimp only; rw [List.length_append]; exact sub_picks [0, 0, 0, 0, 0, 0, 0] rfl)⟩
          · refine o_fn 1 (d := 54) rfl Try.call87 (NextS_c hst (hm0 := MSub.ext) _ (by omega)) rfl ?_
            rintro _ _ ⟨kv, sG', rfl, hkv0, hkv1, hst, rfl⟩
            refine o_nil ?_
            refine d_val (i := 9) rfl (by kernel_rfl) (by kernel_rfl) (by kernel_rfl) rfl rfl rfl (y_add rfl rfl (by have := hkv1 (by omega); simp only [inK]; omega)) ?_
            refine d_eff2 (k := 1) (k' := 10) (n := 3) (m := 5) rfl rfl (by kernel_rfl) rfl ?_ ?_
            · refine o_val rfl rfl rfl (y_load Try.isAgg22 rfl (cel_own 2 rfl rfl)) ?_
              refine o_nil ?_
              refine d_eff (k := 10) (n := 3) (m := 5) rfl (by kernel_rfl) rfl ?_
              refine o_lit (vs := [(0, .int _ _)]) rfl rfl (GenP_k3 _) (fun b21 => ?_)
              refine o_nil ?_
              refine d_eff (k := 11) (n := 3) (m := 5) rfl (by kernel_rfl) rfl ?_
              refine o_append (sz := 1) (bytes := 8) (news := [(.int _ _)]) 1 rfl Try.underlying22 Try.type3 rfl rfl rfl rfl rfl hvo rfl rfl (Src.slice Try.underlying22 (cels_own 8 rfl rfl) rfl (by simp [Value.oneCell']) (by simp)) (by omega) (fun A22 c23 E24 ho25 hn26 => ?_)
              have ho27 : OS A22 (w.vs.length + 1) c23 3 1 ((w.vs ++ [((ks.getD ((u.i : Nat) : Int).toNat default).fs.getD ((w.vs.length : Nat) : Int).toNat default).low + kv]).map (.int .i64)) E24 := (os_eq ho25 (by rw [List.map_append]; rfl))
              clear ho25
              refine o_nil ?_
              refine d_val (i := 12) rfl (by kernel_rfl) (by kernel_rfl) (by kernel_rfl) rfl rfl rfl (y_field0 Try.runUnderlying155 rfl Try.sizeOf22 rfl rfl) ?_
              refine d_eff (k := 13) (n := 3) (m := 5) rfl (by kernel_rfl) rfl ?_
              refine o_store (v := (.slice _ _ _)) 2 rfl Try.sizeOf22 rfl rfl rfl rfl ?_
              refine o_nil ?_
              refine d_nil (n := 3) (m := 5) (by kernel_rfl) rfl ?_
              refine s_norm [_, _, [(_, .cells [(.int _ _), (.slice _ _ _)].toArray 155 (0, 0))], [(_, .cells [(.slice _ _ _), (.slice _ _ _)].toArray 38 (0, 0))], _, _, _, [(_, .cells [(.string _), (.int _ _), (.int _ _)].toArray 61 (0, 0))], [(_, .cells [(.int _ _)].toArray 3 (0, 0))]] rfl ?_
              refine s_forget [(0, (.slice _ _ _)), (4, (.slice _ _ _)), (5, (.pointer _)), (6, (.slice _ _ _)), (7, (.int _ _)), (8, (.pointer _)), (11, (.pointer _)), (22, (.int _ _)), (23, (.int _ _)), (27, (.slice _ _ _)), (28, (.int _ _)), (29, (.int _ _)), (40, (.slice _ _ _)), (41, (.int _ _)), (42, (.int _ _))] ⟨rfl, rfl, rfl, rfl, rfl, rfl, rfl, rfl, rfl, rfl, rfl, rfl, rfl, rfl, rfl, trivial⟩ (fun _f => ?_)
              refine s_region ?_
              refine o_val rfl rfl rfl (y_add rfl rfl (by simp only [inK]; omega)) ?_
              refine o_val rfl rfl rfl (y_move (v := (.int _ _)) rfl) ?_
              refine o_nil ?_
              exact ⟨LF7.mk (w.vs ++ [((ks.getD ((u.i : Nat) : Int).toNat default).fs.getD ((w.vs.length : Nat) : Int).toNat default).low + kv]) A22 c23 E24 sG', (by simp only [List.length_append, List.length_singleton]; omega), ⟨by simp only [List.length_append, List.length_singleton]; omega, by dsimp only; rw [List.length_append]; exact ho27, fits_snoc hfit (fits_low hfok hkv0 (hkv1 (by omega))), hst⟩, ⟨(congrArg (Value.int .i64) (by simp only [List.length_append, List.length_singleton]; omega)), rfl, rfl, rfl, rfl, rfl, rfl, rfl, rfl, rfl, rfl, rfl, rfl, rfl, rfl, trivial⟩, (by dsimp only; rw [List.length_append]; exact sub_picks [0, 0, 0, 0, 0, 0, 0] rfl)⟩
            · refine o_lit (vs := [(0, .int _ _)]) rfl rfl (GenP_k3 _) (fun b28 => ?_)
              refine o_nil ?_
              refine d_now (i := 1) [] rfl (by kernel_rfl) (by kernel_rfl) (by kernel_rfl) rfl rfl rfl (y_load Try.isAgg22 rfl (cel_own 2 rfl rfl)) trivial ?_
              refine d_eff (k := 11) (n := 3) (m := 5) rfl (by kernel_rfl) rfl ?_
              refine o_append (sz := 1) (bytes := 8) (news := [(.int _ _)]) 1 rfl Try.underlying22 Try.type3 rfl rfl rfl rfl rfl hvo rfl rfl (Src.slice Try.underlying22 (cels_own 8 rfl rfl) rfl (by simp [Value.oneCell']) (by simp)) (by omega) (fun A29 c30 E31 ho32 hn33 => ?_)
              have ho34 : OS A29 (w.vs.length + 1) c30 3 1 ((w.vs ++ [((ks.getD ((u.i : Nat) : Int).toNat default).fs.getD ((w.vs.length : Nat) : Int).toNat default).low + kv]).map (.int .i64)) E31 := (os_eq ho32 (by rw [List.map_append]; rfl))
              clear ho32
              refine o_nil ?_
              refine d_val (i := 12) rfl (by kernel_rfl) (by kernel_rfl) (by kernel_rfl) rfl rfl rfl (y_field0 Try.runUnderlying155 rfl Try.sizeOf22 rfl rfl) ?_
              refine d_eff (k := 13) (n := 3) (m := 5) rfl (by kernel_rfl) rfl ?_
              refine o_store (v := (.slice _ _ _)) 2 rfl Try.sizeOf22 rfl rfl rfl rfl ?_
              refine o_nil ?_
              refine d_nil (n := 3) (m := 5) (by kernel_rfl) rfl ?_
              refine s_norm [_, _, [(_, .cells [(.int _ _), (.slice _ _ _)].toArray 155 (0, 0))], [(_, .cells [(.slice _ _ _), (.slice _ _ _)].toArray 38 (0, 0))], _, _, _, [(_, .cells [(.string _), (.int _ _), (.int _ _)].toArray 61 (0, 0))], [(_, .cells [(.int _ _)].toArray 3 (0, 0))]] rfl ?_
              refine s_forget [(0, (.slice _ _ _)), (4, (.slice _ _ _)), (5, (.pointer _)), (6, (.slice _ _ _)), (7, (.int _ _)), (8, (.pointer _)), (11, (.pointer _)), (22, (.int _ _)), (23, (.int _ _)), (27, (.slice _ _ _)), (28, (.int _ _)), (29, (.int _ _)), (40, (.slice _ _ _)), (41, (.int _ _)), (42, (.int _ _))] ⟨rfl, rfl, rfl, rfl, rfl, rfl, rfl, rfl, rfl, rfl, rfl, rfl, rfl, rfl, rfl, trivial⟩ (fun _f => ?_)
              refine s_region ?_
              refine o_val rfl rfl rfl (y_add rfl rfl (by simp only [inK]; omega)) ?_
              refine o_val rfl rfl rfl (y_move (v := (.int _ _)) rfl) ?_
              refine o_nil ?_
              exact ⟨LF7.mk (w.vs ++ [((ks.getD ((u.i : Nat) : Int).toNat default).fs.getD ((w.vs.length : Nat) : Int).toNat default).low + kv]) A29 c30 E31 sG', (by simp only [List.length_append, List.length_singleton]; omega), ⟨by simp only [List.length_append, List.length_singleton]; omega, by dsimp only; rw [List.length_append]; exact ho34, fits_snoc hfit (fits_low hfok hkv0 (hkv1 (by omega))), hst⟩, ⟨(congrArg (Value.int .i64) (by simp only [List.length_append, List.length_singleton]; omega)), rfl, rfl, rfl, rfl, rfl, rfl, rfl, rfl, rfl, rfl, rfl, rfl, rfl, rfl, trivial⟩, (by dsimp only; rw [List.length_append]; exact sub_picks [0, 0, 0, 0, 0, 0, 0] rfl)⟩
        · refine s_exit ?_
          refine s_region ?_
          refine o_val rfl rfl rfl (y_field0 Try.runUnderlying38 rfl Try.sizeOf33 rfl rfl) ?_
          refine o_val rfl rfl rfl (y_load Try.isAgg33 rfl (cel_own 3 rfl rfl)) ?_
          refine o_val rfl rfl rfl (y_loads (cs := [_, _]) Try.isAgg155 Try.sizeOf155 rfl rfl rfl (cels_own 2 rfl rfl)) ?_
          refine o_lit (vs := [(0, .agg #[.int _ _, .slice _ _ _])]) rfl rfl (GenP_k4 _ _ _ _) (fun b35 => ?_)
          refine o_append (sz := 2) (bytes := 32) (news := [(.int _ _), (.slice _ _ _)]) 4 rfl Try.underlying33 Try.type155 rfl rfl rfl rfl rfl hco rfl rfl (Src.slice Try.underlying33 (cels_own 7 rfl rfl) rfl (by simp [Value.oneCell']) (by simp)) (by omega) (fun A36 c37 E38 ho39 hn40 => ?_)
          have ho41 : OS A36 (u.cs.length + 1) c37 155 2 ((u.cs ++ [(newC ((u.i : Nat) : Int) w.A w.vs.length w.c w.vs)]).flatMap encC) E38 := os_snoc ho39 rfl
          clear ho39
          refine o_pull 5 ?_
          refine o_pull 2 ?_
          refine o_fuse ?_
          refine o_val rfl rfl rfl (y_field0 Try.runUnderlying38 rfl Try.sizeOf33 rfl rfl) ?_
          refine o_store (v := (.slice _ _ _)) 3 rfl Try.sizeOf33 rfl rfl rfl rfl ?_
          refine o_nil ?_
          refine s_norm [_, _, [(_, .cells [(.int _ _), (.slice _ _ _)].toArray 155 (0, 0))], [(_, .cells [(.slice _ _ _), (.slice _ _ _)].toArray 38 (0, 0))], _, _, [(_, .cells [(.int _ _), (.slice _ _ _)].toArray 155 (0, 0))]] rfl ?_
          refine s_region ?_
          refine o_val rfl rfl rfl (y_add rfl rfl (by simp only [inK]; omega)) ?_
          refine o_val rfl rfl rfl (y_move (v := (.int _ _)) rfl) ?_
          refine o_nil ?_
          exact ⟨LC6.mk (u.i + 1) (u.cs ++ [(newC ((u.i : Nat) : Int) w.A w.vs.length w.c w.vs)]) A36 c37 E38 (w.E ++ u.P) w.S, (by first | omega | (dsimp only; omega)), ⟨by dsimp only; omega, by dsimp only; rw [List.length_append]; exact ho41, all_snoc (fun y hy => (hcx y hy).sub inG_right) (cok_new hvo (by omega)), held_snoc hch ⟨(show lastC u.cs u.cs.length < ((u.i : Nat) : Int) from lastC_lt hck2 (by omega)), by dsimp only [newC]; omega, by dsimp only [newC]; exact holds_of hone (by omega) (fun j hj => hfit j (by omega))⟩, all_snoc (fun y hy => by have := hck2 y hy; dsimp only; omega) (by dsimp only [newC]; omega), by simp only [List.length_append, List.length_singleton]; omega, hst, hmu.trans inG_right⟩, ⟨(congrArg (Value.int .i64) (by (try dsimp only); omega)), rfl, rfl, rfl, rfl, rfl, rfl, rfl, rfl, rfl, rfl, trivial⟩, (by dsimp only; rw [List.length_append]; exact sub_picks [1, 2, 2, 0, 1] rfl)⟩
    · refine s_exit ?_
      refine s_seq ?_
      refine s_seq ?_
      refine s_region ?_
      refine o_val rfl rfl rfl (y_move (v := (.pointer _)) rfl) ?_
      refine o_fn 1 (d := 68) rfl Try.call87 (NextS_c hst (hm0 := MSub.ext) 3 (by omega)) rfl ?_
      rintro _ _ ⟨kp, sG', rfl, hkp0, hkp1, hst, rfl⟩
      refine o_val rfl rfl rfl (y_move (v := (.int _ _)) rfl) ?_
      refine o_nil ?_
      refine s_block ?_
      refine s_group ?_
      refine s_loopK (γ := LQ6) [(0, (.slice _ _ _)), (4, (.slice _ _ _)), (5, (.pointer _)), (6, (.slice _ _ _)), (7, (.int _ _)), (8, (.pointer _)), (22, (.int _ _)), (23, (.int _ _)), (68, (.int _ _))] [_, _] (fun q => [(69, .int .i64 q.k)]) (fun q => [q.S, [(b4, .cells [.slice u.A u.cs.length u.c, .slice q.A q.ps.length q.c].toArray 38 (0, 0))], q.E, q.P]) (fun q => ((q.k : Nat) : Int) ≤ kp ∧ OS q.A q.ps.length q.c 41 2 ((q.ps).flatMap encPa) q.E ∧ (∀ y ∈ q.ps, PaOK (inG q.P) y ∧ partG ks g.l y) ∧ q.ps.length ≤ q.k ∧ Strm V b1 q.S ∧ MSub (inG u.P) (inG q.P)) (fun q => (kp - q.k).toNat) (LQ6.mk 0 [] none 0 [] u.P sG') ⟨rfl, rfl, rfl, rfl, rfl, rfl, rfl, rfl, rfl, rfl, trivial⟩ (sub_picks [0, 0, 3, 1, 0, 0] rfl) ?_ ?_
      · exact ⟨by dsimp only; omega, OS.nil _ _, fun y hy => absurd hy List.not_mem_nil, Nat.zero_le _, hst, MSub.refl⟩
      intro q _f hQ
      refine s_norm _ (by simp only [pull, picks, setG, List.cons_append, List.nil_append, List.append_nil, List.drop_succ_cons, List.drop_zero]; rfl) ?_
      obtain ⟨hqk, hqo, hqx, hql, hst, hmq⟩ := hQ
      have hkp2 := hkp1 (by decide)
      refine s_seq ?_
      refine s_region ?_
      refine o_val rfl rfl rfl (y_lss rfl rfl) ?_
      refine o_nil ?_
      refine s_seq ?_
      refine s_if rfl (fun h42 => ?_) (fun h43 => ?_)
      · refine s_skip ?_
        refine s_seq ?_
        refine s_block ?_
        refine s_seq ?_
        refine s_seq ?_
        refine s_region ?_
        refine o_val rfl rfl rfl (y_move (v := (.int _ _)) rfl) ?_
        refine o_val rfl rfl rfl (y_eql rfl rfl) ?_
        refine o_nil ?_
        refine s_if rfl (fun h44 => ?_) (fun h45 => ?_)
        · have hl0 := h44
          refine s_exit ?_
          refine s_region ?_
          refine o_val rfl rfl rfl (y_move (v := (.slice _ _ _)) rfl) ?_
          refine o_val rfl rfl rfl (y_loads (cs := [_, _]) Try.isAgg38 Try.sizeOf38 rfl rfl rfl (cels_own 1 rfl rfl)) ?_
          refine o_lit (vs := [(0, .agg #[.slice _ _ _, .slice _ _ _])]) rfl rfl (GenP_k5 _ _ _ _ _ _) (fun b46 => ?_)
          refine o_append (sz := 2) (bytes := 48) (news := [(.slice _ _ _), (.slice _ _ _)]) 5 rfl Try.underlying25 Try.type38 rfl rfl rfl rfl rfl hlo rfl rfl (Src.slice Try.underlying25 (cels_own 6 rfl rfl) rfl (by simp [Value.oneCell']) (by simp)) (by omega) (fun A47 c48 E49 ho50 hn51 => ?_)
          have ho52 : OS A47 (g.l.length + 1) c48 38 2 ((g.l ++ [(PfR.mk u.A u.cs.length u.c u.cs q.A q.ps.length q.c q.ps)]).flatMap encPf) E49 := os_snoc ho50 rfl
          clear ho50
          refine o_val rfl rfl rfl (y_assign (v := (.slice _ _ _)) rfl) ?_
          refine o_nil ?_
          refine s_norm [_, [(_, .cells [(.slice _ _ _), (.slice _ _ _)].toArray 38 (0, 0))], _, _, _, _, [(_, .cells [(.slice _ _ _), (.slice _ _ _)].toArray 38 (0, 0))]] rfl ?_
          refine s_forget [(0, (.slice _ _ _)), (4, (.slice _ _ _)), (5, (.pointer _)), (6, (.slice _ _ _)), (22, (.int _ _)), (23, (.int _ _))] ⟨rfl, rfl, rfl, rfl, rfl, rfl, trivial⟩ (fun _f => ?_)
          refine s_region ?_
          refine o_pull 3 ?_
          refine o_pull 4 ?_
          refine o_fuse ?_
          refine o_pull 3 ?_
          refine o_fuse ?_
          refine o_val rfl rfl rfl (y_add rfl rfl (by simp only [inK]; omega)) ?_
          refine o_val rfl rfl rfl (y_move (v := (.int _ _)) rfl) ?_
          refine o_nil ?_
          exact ⟨LP6.mk (g.l ++ [(PfR.mk u.A u.cs.length u.c u.cs q.A q.ps.length q.c q.ps)]) A47 c48 E49 (q.E ++ (u.E ++ q.P)) q.S, (by simp only [List.length_append, List.length_singleton]; omega), ⟨by simp only [List.length_append, List.length_singleton]; omega, by dsimp only; rw [List.length_append]; exact ho52, all_snoc (fun x hx => (hlp x hx).sub (((hmu.trans hmq).trans inG_right).trans inG_right)) ⟨⟨rfl, hco.2.1, by dsimp only; omega, hco.mem.ms (inG_left.trans inG_right), fun y hy => (hcx y hy).sub ((hmq.trans inG_right).trans inG_right)⟩, ⟨rfl, hqo.2.1, by dsimp only; omega, hqo.mem.ms inG_left, fun y hy => (hqx y hy).1.sub (inG_right.trans inG_right)⟩⟩, okTs_snoc hlk (by omega) (by dsimp only; omega) (fun y hy => (hqx y hy).2) hch, hst⟩, ⟨(by dsimp only; rw [List.length_append]; rfl), (congrArg (Value.int .i64) (by simp only [List.length_append, List.length_singleton]; omega)), rfl, rfl, rfl, rfl, trivial⟩, (sub_picks [1, 2, 0] rfl)⟩
        · have hl0 := h45
          refine s_skip ?_
          refine s_seq ?_
          refine s_region ?_
          refine o_val rfl rfl rfl (y_move (v := (.pointer _)) rfl) ?_
          refine o_val rfl rfl rfl (y_move (v := (.int _ _)) rfl) ?_
          refine o_fn 1 (d := 75) rfl Try.call87 (NextS_c hst (hm0 := MSub.ext) ((g.l.length : Nat) : Int) (by omega)) rfl ?_
          rintro _ _ ⟨ko, sG', rfl, hko0, hko1, hst, rfl⟩
          refine o_val rfl rfl rfl (y_build (vs := [(0, .int _ _)]) rfl (GenP_k6 _)) ?_
          refine o_alloc rfl Try.zeroValue41 rfl (fun b53 => ?_)
          refine o_stores (vs := [(.int _ _), (.slice _ _ _)]) 6 rfl Try.sizeOf41 rfl rfl rfl (by simp [Value.oneCell']) (by simp) ?_
          refine o_nil ?_
          refine s_norm [_, [(_, .cells [(.slice _ _ _), (.slice _ _ _)].toArray 38 (0, 0))], _, _, _, _, [(_, .cells [(.int _ _), (.slice _ _ _)].toArray 41 (0, 0))]] rfl ?_
          refine s_forget [(0, (.slice _ _ _)), (4, (.slice _ _ _)), (5, (.pointer _)), (6, (.slice _ _ _)), (7, (.int _ _)), (8, (.pointer _)), (14, (.pointer _)), (22, (.int _ _)), (23, (.int _ _)), (68, (.int _ _)), (69, (.int _ _))] ⟨rfl, rfl, rfl, rfl, rfl, rfl, rfl, rfl, rfl, rfl, rfl, trivial⟩ (fun _f => ?_)
          refine s_seq ?_
          refine s_seq ?_
          refine s_region ?_
          have hko1' := hko1 (by omega)
          refine o_val rfl rfl rfl (y_move (v := (.slice _ _ _)) rfl) ?_
          refine o_val rfl rfl rfl (y_field0 Try.runUnderlying41 rfl Try.sizeOf3 rfl rfl) ?_
          refine o_val rfl rfl rfl (y_load Try.isAgg3 rfl (cel_own 6 rfl rfl)) ?_
          refine o_val rfl rfl rfl (y_indexAddr Try.runUnderlying25 Try.sizeOf38 (hlo.some_of (by omega)) rfl rfl (by omega)) ?_
          refine o_val rfl rfl rfl (y_fieldX (F := 0) Try.runUnderlying38 rfl Try.sizeOf33 rfl (hlo.some_of (by omega)) rfl) ?_
          refine o_val rfl rfl rfl (y_load Try.isAgg33 rfl ((cels_at (sz := 2) encPf_len (hlo.cels (j := 5) rfl) (by omega)).cel' (i := 0) rfl)) ?_
          have hzp := hlp _ (getD_mem' (show ko.toNat < g.l.length by omega) : (g.l.getD ko.toNat default) ∈ g.l)
          have hzh : heldP ks (g.l.getD ko.toNat default).cs := hlk.2.2 ko.toNat (by omega)
          have hzl := hzp.1.1
          refine o_val rfl rfl rfl (y_assign (v := (.slice _ _ _)) rfl) ?_
          refine o_nil ?_
          refine s_seq ?_
          refine s_region ?_
          refine o_val rfl rfl rfl (y_move (v := (.slice _ _ _)) rfl) ?_
          refine o_val rfl rfl rfl (y_len Try.runUnderlying33 rfl) ?_
          refine o_split rfl rfl rfl (y_gtr rfl rfl) (fun p54 => ?_) (fun p55 => ?_)
          · have hcs0 : 0 < (g.l.getD ko.toNat default).cs.length := by omega
            have hcc := hzp.1.2.2.2.2 _ (getD_mem' (show (0 : Int).toNat < (g.l.getD ko.toNat default).cs.length from hcs0) : ((g.l.getD ko.toNat default).cs.getD (0 : Int).toNat default) ∈ (g.l.getD ko.toNat default).cs)
            have hcd : goodC ks (-1) ((g.l.getD ko.toNat default).cs.getD (0 : Int).toNat default) := hzh 0 hcs0
            have hcd1 := hcd.1
            have hcd2 := hcd.2.1
            have hccl := hcc.1
            refine o_val rfl rfl rfl (y_move (v := (.bool _)) rfl) ?_
            refine o_guard_yes rfl rfl ?_
            refine o_val rfl rfl rfl (y_move (v := (.slice _ _ _)) rfl) ?_
            refine o_guard_yes rfl rfl ?_
            refine o_val rfl rfl rfl (y_indexAddr Try.runUnderlying33 Try.sizeOf155 (some_at (sz := 1) encC_len (i := 0) (hzp.1.sub (hmu.trans hmq)).2.2.2.1 (by omega)) rfl rfl (by omega)) ?_
            refine o_guard_yes rfl rfl ?_
            refine o_val rfl rfl rfl (y_fieldX (F := 1) Try.runUnderlying155 rfl Try.sizeOf22 rfl (some_at (sz := 1) encC_len (i := 0) (hzp.1.sub (hmu.trans hmq)).2.2.2.1 (by omega)) rfl) ?_
            refine o_guard_yes rfl rfl ?_
            refine o_val rfl rfl rfl (y_load Try.isAgg22 rfl ((cels_at (sz := 2) encC_len (((hzp.1.sub (hmu.trans hmq)).2.2.2.1).ms (inG_ext (j := 3) rfl)).up (by omega)).cel' (i := 1) rfl)) ?_
            refine o_guard_yes rfl rfl ?_
            refine o_val rfl rfl rfl (y_len Try.runUnderlying22 rfl) ?_
            refine o_guard_yes rfl rfl ?_
            refine o_val rfl rfl rfl (y_gtr rfl rfl) ?_
            refine o_val rfl rfl rfl (y_pick_t (v := (.bool _)) rfl rfl) ?_
            refine o_nil ?_
            refine s_forget [(0, (.slice _ _ _)), (4, (.slice _ _ _)), (5, (.pointer _)), (6, (.slice _ _ _)), (7, (.int _ _)), (8, (.pointer _)), (14, (.pointer _)), (15, (.slice _ _ _)), (22, (.int _ _)), (23, (.int _ _)), (68, (.int _ _)), (69, (.int _ _)), (93, (.bool _))] ⟨rfl, rfl, rfl, rfl, rfl, rfl, rfl, rfl, rfl, rfl, rfl, rfl, rfl, trivial⟩ (fun _f => ?_)
            refine s_if rfl (fun h56 => ?_) (fun h57 => ?_)
            · have hv0 := h56
              refine s_seq ?_
              refine s_region ?_
              refine o_val rfl rfl rfl (y_move (v := (.slice _ _ _)) rfl) ?_
              refine o_val rfl rfl rfl (y_move (v := (.slice _ _ _)) rfl) ?_
              refine o_val rfl rfl rfl (y_indexAddr Try.runUnderlying33 Try.sizeOf155 (some_at (sz := 1) encC_len (i := 0) (hzp.1.sub (hmu.trans hmq)).2.2.2.1 (by omega)) rfl rfl (by omega)) ?_
              refine o_val rfl rfl rfl (y_fieldX (F := 0) Try.runUnderlying155 rfl Try.sizeOf3 rfl (some_at (sz := 1) encC_len (i := 0) (hzp.1.sub (hmu.trans hmq)).2.2.2.1 (by omega)) rfl) ?_
              refine o_val rfl rfl rfl (y_load Try.isAgg3 rfl ((cels_at (sz := 2) encC_len (((hzp.1.sub (hmu.trans hmq)).2.2.2.1).ms (inG_ext (j := 3) rfl)).up (by omega)).cel' (i := 0) rfl)) ?_
              refine o_val rfl rfl rfl (y_indexAddr Try.runUnderlying23 Try.sizeOf58 (some_at (sz := 1) encK_len (i := 0) hK (by omega)) rfl rfl (by omega)) ?_
              refine o_val rfl rfl rfl (y_fieldX (F := 1) Try.runUnderlying58 rfl Try.sizeOf56 rfl (some_at (sz := 1) encK_len (i := 0) hK (by omega)) rfl) ?_
              refine o_val rfl rfl rfl (y_load Try.isAgg56 rfl ((cels_at (sz := 2) encK_len hK.here (by omega)).cel' (i := 1) rfl)) ?_
              have hkk2 := (hKK _ (getD_mem' (show ((g.l.getD ko.toNat default).cs.getD (0 : Int).toNat default).kind.toNat < ks.length by omega) : (ks.getD ((g.l.getD ko.toNat default).cs.getD (0 : Int).toNat default).kind.toNat default) ∈ ks))
              have hkg1 := (hkg.2 ((g.l.getD ko.toNat default).cs.getD (0 : Int).toNat default).kind.toNat (by omega)).2.1
              have hkf := hkk2.1
              refine o_val rfl rfl rfl (y_indexAddr Try.runUnderlying56 Try.sizeOf61 (some_at (sz := 2) encF_len (i := 0) hkk2.2.2.2 (by omega)) rfl rfl (by omega)) ?_
              refine o_val rfl rfl rfl (y_loads (cs := [_, _, _]) Try.isAgg61 Try.sizeOf61 rfl (by unfold idx; rw [Option.isSome_map]; exact some_at (sz := 2) encF_len (i := 0) hkk2.2.2.2 (by omega)) rfl (cels_at (sz := 3) encF_len hkk2.2.2.2.here (by omega))) ?_
              refine o_alloc rfl Try.zeroValue61 rfl (fun b58 => ?_)
              refine o_stores (vs := [(.string _), (.int _ _), (.int _ _)]) 7 rfl Try.sizeOf61 rfl rfl rfl (by simp [Value.oneCell']) (by simp) ?_
              refine o_nil ?_
              refine s_pull 6 ?_
              refine s_pull 1 ?_
              refine s_drawn 2 (by kernel_rfl) ?_
              refine d_val (i := 0) rfl (by kernel_rfl) (by kernel_rfl) (by kernel_rfl) rfl rfl rfl (y_field0 Try.runUnderlying41 rfl Try.sizeOf39 rfl rfl) ?_
              refine d_val (i := 2) rfl (by kernel_rfl) (by kernel_rfl) (by kernel_rfl) rfl rfl rfl (y_move (v := (.slice _ _ _)) rfl) ?_
              refine d_val (i := 3) rfl (by kernel_rfl) (by kernel_rfl) (by kernel_rfl) rfl rfl rfl (y_indexAddr Try.runUnderlying33 Try.sizeOf155 (some_at (sz := 1) encC_len (i := 0) (hzp.1.sub (hmu.trans hmq)).2.2.2.1 (by omega)) rfl rfl (by omega)) ?_
              refine d_val (i := 4) rfl (by kernel_rfl) (by kernel_rfl) (by kernel_rfl) rfl rfl rfl (y_fieldX (F := 0) Try.runUnderlying155 rfl Try.sizeOf3 rfl (some_at (sz := 1) encC_len (i := 0) (hzp.1.sub (hmu.trans hmq)).2.2.2.1 (by omega)) rfl) ?_
              refine d_val (i := 5) rfl (by kernel_rfl) (by kernel_rfl) (by kernel_rfl) rfl rfl rfl (y_load Try.isAgg3 rfl ((cels_at (sz := 2) encC_len (((hzp.1.sub (hmu.trans hmq)).2.2.2.1).ms (inG_ext (j := 2) rfl)).up (by omega)).cel' (i := 0) rfl)) ?_
              refine d_val (i := 6) rfl (by kernel_rfl) (by kernel_rfl) (by kernel_rfl) rfl rfl rfl (y_build (vs := [(0, .int _ _)]) rfl (GenP_k7 _)) ?_
              have hone2 : oneErr (ks.getD ((g.l.getD ko.toNat default).cs.getD (0 : Int).toNat default).kind.toNat default) = 0 := ck_one hck (j := ((g.l.getD ko.toNat default).cs.getD (0 : Int).toNat default).kind.toNat) (by omega)
              have hfok : fOK ((ks.getD ((g.l.getD ko.toNat default).cs.getD (0 : Int).toNat default).kind.toNat default).fs.getD (0 : Int).toNat default) := one_field hone2 (j := 0) (by omega)
              have hp := pow_bd ⟨hfok.2.1, hfok.2.2.1⟩
              have hlo := hfok.2.2.2
              refine d_val (i := 7) rfl (by kernel_rfl) (by kernel_rfl) (by kernel_rfl) rfl rfl rfl (y_field0 Try.runUnderlying61 rfl Try.sizeOf3 rfl rfl) ?_
              refine d_val (i := 8) rfl (by kernel_rfl) (by kernel_rfl) (by kernel_rfl) rfl rfl rfl (y_load Try.isAgg3 rfl (cel_own 5 rfl rfl)) ?_
              refine d_val (i := 9) rfl (by kernel_rfl) (by kernel_rfl) (by kernel_rfl) rfl rfl rfl (y_move (v := (.pointer _)) rfl) ?_
              refine d_val (i := 10) rfl (by kernel_rfl) (by kernel_rfl) (by kernel_rfl) rfl rfl rfl (y_field0 Try.runUnderlying61 rfl Try.sizeOf3 rfl rfl) ?_
              refine d_val (i := 11) rfl (by kernel_rfl) (by kernel_rfl) (by kernel_rfl) rfl rfl rfl (y_load Try.isAgg3 rfl (cel_own 5 rfl rfl)) ?_
              refine d_val (i := 12) rfl (by kernel_rfl) (by kernel_rfl) (by kernel_rfl) rfl rfl rfl ((y_shl rfl rfl (by have := hfok.2.1; omega)).int (pow_bits ⟨hfok.2.1, hfok.2.2.1⟩)) ?_
              refine d_eff2 (k := 1) (k' := 13) (n := 2) (m := 6) rfl rfl (by kernel_rfl) rfl ?_ ?_
              · refine o_val rfl rfl rfl (y_load Try.isAgg39 rfl (cel_own 1 rfl rfl)) ?_
                refine o_nil ?_
                refine d_eff (k := 13) (n := 2) (m := 6) rfl (by kernel_rfl) rfl ?_
                refine o_fn 1 (d := 117) rfl Try.call87 (NextS_c hst (hm0 := MSub.ext) _ (by omega)) rfl ?_
                rintro _ _ ⟨kv, sG', rfl, hkv0, hkv1, hst, rfl⟩
                refine o_nil ?_
                refine d_val (i := 14) rfl (by kernel_rfl) (by kernel_rfl) (by kernel_rfl) rfl rfl rfl (y_add rfl rfl (by have := hkv1 (by omega); simp only [inK]; omega)) ?_
                refine d_val (i := 15) rfl (by kernel_rfl) (by kernel_rfl) (by kernel_rfl) rfl rfl rfl (y_build (vs := [(1, .agg #[.int _ _, .int _ _]), (2, .int _ _)]) rfl (GenP_k8 _ _ _)) ?_
                refine d_eff (k := 16) (n := 2) (m := 6) rfl (by kernel_rfl) rfl ?_
                refine o_lit (vs := [(0, .agg #[.slice _ _ _, .int _ _, .int _ _, .int _ _])]) rfl rfl (GenP_k9 _ _ _ _ _ _) (fun b59 => ?_)
                refine o_nil ?_
                refine d_eff (k := 17) (n := 2) (m := 6) rfl (by kernel_rfl) rfl ?_
                refine o_newgroup ?_
                refine o_append (sz := 4) (bytes := 48) (news := [(.slice _ _ _), (.int _ _), (.int _ _), (.int _ _)]) 9 rfl Try.underlying39 Try.type147 rfl rfl rfl rfl rfl (OS.nil 147 4) rfl rfl (Src.slice Try.underlying39 (cels_own 8 rfl rfl) rfl (by simp [Value.oneCell']) (by simp)) (by omega) (fun A60 c61 E62 ho63 hn64 => ?_)
                have ho65 : OS A60 1 c61 147 4 (([OvR.mk none 0 0 [] ((g.l.getD ko.toNat default).cs.getD (0 : Int).toNat default).kind 0 (((ks.getD ((g.l.getD ko.toNat default).cs.getD (0 : Int).toNat default).kind.toNat default).fs.getD (0 : Int).toNat default).low + kv)] : List OvR).flatMap encOv) E62 := os_eq ho63 rfl
                clear ho63
                refine o_nil ?_
                refine d_val (i := 18) rfl (by kernel_rfl) (by kernel_rfl) (by kernel_rfl) rfl rfl rfl (y_field0 Try.runUnderlying41 rfl Try.sizeOf39 rfl rfl) ?_
                refine d_eff (k := 19) (n := 2) (m := 6) rfl (by kernel_rfl) rfl ?_
                refine o_store (v := (.slice _ _ _)) 1 rfl Try.sizeOf39 rfl rfl rfl rfl ?_
                refine o_nil ?_
                refine d_nil (n := 2) (m := 6) (by kernel_rfl) rfl ?_
                refine s_norm [_, [(_, .cells [(.int _ _), (.slice _ _ _)].toArray 41 (0, 0))], [(_, .cells [(.slice _ _ _), (.slice _ _ _)].toArray 38 (0, 0))], _, _, _, _, [(_, .cells [(.string _), (.int _ _), (.int _ _)].toArray 61 (0, 0))], [(_, .cells [(.slice _ _ _), (.int _ _), (.int _ _), (.int _ _)].toArray 147 (0, 0))], _] rfl ?_
                refine s_forget [(0, (.slice _ _ _)), (4, (.slice _ _ _)), (5, (.pointer _)), (6, (.slice _ _ _)), (7, (.int _ _)), (8, (.pointer _)), (14, (.pointer _)), (22, (.int _ _)), (23, (.int _ _)), (68, (.int _ _)), (69, (.int _ _))] ⟨rfl, rfl, rfl, rfl, rfl, rfl, rfl, rfl, rfl, rfl, rfl, trivial⟩ (fun _f => ?_)
                refine s_region ?_
                refine o_val rfl rfl rfl (y_field0 Try.runUnderlying38 rfl Try.sizeOf36 rfl rfl) ?_
                refine o_val rfl rfl rfl (y_load Try.isAgg36 rfl (cel_own 2 rfl rfl)) ?_
                refine o_val rfl rfl rfl (y_loads (cs := [_, _]) Try.isAgg41 Try.sizeOf41 rfl rfl rfl (cels_own 1 rfl rfl)) ?_
                refine o_lit (vs := [(0, .agg #[.int _ _, .slice _ _ _])]) rfl rfl (GenP_k10 _ _ _ _) (fun b66 => ?_)
                refine o_append (sz := 2) (bytes := 32) (news := [(.int _ _), (.slice _ _ _)]) 3 rfl Try.underlying36 Try.type41 rfl rfl rfl rfl rfl hqo rfl rfl (Src.slice Try.underlying36 (cels_own 10 rfl rfl) rfl (by simp [Value.oneCell']) (by simp)) (by omega) (fun A67 c68 E69 ho70 hn71 => ?_)
                have ho72 : OS A67 (q.ps.length + 1) c68 41 2 ((q.ps ++ [(PaR.mk ko A60 1 c61 [OvR.mk none 0 0 [] ((g.l.getD ko.toNat default).cs.getD (0 : Int).toNat default).kind 0 (((ks.getD ((g.l.getD ko.toNat default).cs.getD (0 : Int).toNat default).kind.toNat default).fs.getD (0 : Int).toNat default).low + kv)])]).flatMap encPa) E69 := os_snoc ho70 rfl
                clear ho70
                refine o_pull 4 ?_
                refine o_pull 9 ?_
                refine o_fuse ?_
                refine o_val rfl rfl rfl (y_field0 Try.runUnderlying38 rfl Try.sizeOf36 rfl rfl) ?_
                refine o_store (v := (.slice _ _ _)) 3 rfl Try.sizeOf36 rfl rfl rfl rfl ?_
                refine o_nil ?_
                refine s_norm [_, _, [(_, .cells [(.int _ _), (.slice _ _ _)].toArray 41 (0, 0))], [(_, .cells [(.slice _ _ _), (.slice _ _ _)].toArray 38 (0, 0))], _, _, _, [(_, .cells [(.string _), (.int _ _), (.int _ _)].toArray 61 (0, 0))], [(_, .cells [(.slice _ _ _), (.int _ _), (.int _ _), (.int _ _)].toArray 147 (0, 0))], [(_, .cells [(.int _ _), (.slice _ _ _)].toArray 41 (0, 0))]] rfl ?_
                refine s_region ?_
                refine o_val rfl rfl rfl (y_add rfl rfl (by simp only [inK]; omega)) ?_
                refine o_val rfl rfl rfl (y_move (v := (.int _ _)) rfl) ?_
                refine o_nil ?_
                exact ⟨LQ6.mk (q.k + 1) (q.ps ++ [(PaR.mk ko A60 1 c61 [OvR.mk none 0 0 [] ((g.l.getD ko.toNat default).cs.getD (0 : Int).toNat default).kind 0 (((ks.getD ((g.l.getD ko.toNat default).cs.getD (0 : Int).toNat default).kind.toNat default).fs.getD (0 : Int).toNat default).low + kv)])]) A67 c68 E69 (E62 ++ q.P) sG', (by first | omega | (dsimp only; omega)), ⟨by dsimp only; omega, by dsimp only; rw [List.length_append]; exact ho72, all_snoc (fun y hy => ⟨(hqx y hy).1.sub inG_right, (hqx y hy).2⟩) ⟨⟨rfl, (ho65).2.1, by dsimp only; omega, (ho65).mem.ms inG_left, fun y hy => by rw [List.mem_singleton] at hy; rw [hy]; exact ⟨rfl, Nat.le_refl _, Nat.zero_le _, Cels.nil⟩⟩, ⟨hko0, hko1', (by decide : 1 ≤ 40), use_one hko0 hcs0 (show 0 < ((g.l.getD ko.toNat default).cs.getD (0 : Int).toNat default).vs.length by omega) (fits_low hfok hkv0 (hkv1 (by omega)))⟩⟩, by simp only [List.length_append, List.length_singleton]; omega, hst, hmq.trans inG_right⟩, ⟨(congrArg (Value.int .i64) (by (try dsimp only); omega)), rfl, rfl, rfl, rfl, rfl, rfl, rfl, rfl, rfl, trivial⟩, (by dsimp only; rw [List.length_append]; exact sub_picks [1, 2, 2, 0, 1, 1] rfl)⟩
              · refine o_fn 1 (d := 117) rfl Try.call87 (NextS_c hst (hm0 := MSub.ext) _ (by omega)) rfl ?_
                rintro _ _ ⟨kv, sG', rfl, hkv0, hkv1, hst, rfl⟩
                refine o_nil ?_
                refine d_val (i := 14) rfl (by kernel_rfl) (by kernel_rfl) (by kernel_rfl) rfl rfl rfl (y_add rfl rfl (by have := hkv1 (by omega); simp only [inK]; omega)) ?_
                refine d_val (i := 15) rfl (by kernel_rfl) (by kernel_rfl) (by kernel_rfl) rfl rfl rfl (y_build (vs := [(1, .agg #[.int _ _, .int _ _]), (2, .int _ _)]) rfl (GenP_k8 _ _ _)) ?_
                refine d_eff2 (k := 1) (k' := 16) (n := 2) (m := 6) rfl rfl (by kernel_rfl) rfl ?_ ?_
                · refine o_val rfl rfl rfl (y_load Try.isAgg39 rfl (cel_own 1 rfl rfl)) ?_
                  refine o_nil ?_
                  refine d_eff (k := 16) (n := 2) (m := 6) rfl (by kernel_rfl) rfl ?_
                  refine o_lit (vs := [(0, .agg #[.slice _ _ _, .int _ _, .int _ _, .int _ _])]) rfl rfl (GenP_k9 _ _ _ _ _ _) (fun b73 => ?_)
                  refine o_nil ?_
                  refine d_eff (k := 17) (n := 2) (m := 6) rfl (by kernel_rfl) rfl ?_
                  refine o_newgroup ?_
                  refine o_append (sz := 4) (bytes := 48) (news := [(.slice _ _ _), (.int _ _), (.int _ _), (.int _ _)]) 9 rfl Try.underlying39 Try.type147 rfl rfl rfl rfl rfl (OS.nil 147 4) rfl rfl (Src.slice Try.underlying39 (cels_own 8 rfl rfl) rfl (by simp [Value.oneCell']) (by simp)) (by omega) (fun A74 c75 E76 ho77 hn78 => ?_)
                  have ho79 : OS A74 1 c75 147 4 (([OvR.mk none 0 0 [] ((g.l.getD ko.toNat default).cs.getD (0 : Int).toNat default).kind 0 (((ks.getD ((g.l.getD ko.toNat default).cs.getD (0 : Int).toNat default).kind.toNat default).fs.getD (0 : Int).toNat default).low + kv)] : List OvR).flatMap encOv) E76 := os_eq ho77 rfl
                  clear ho77
                  refine o_nil ?_
                  refine d_val (i := 18) rfl (by kernel_rfl) (by kernel_rfl) (by kernel_rfl) rfl rfl rfl (y_field0 Try.runUnderlying41 rfl Try.sizeOf39 rfl rfl) ?_
                  refine d_eff (k := 19) (n := 2) (m := 6) rfl (by kernel_rfl) rfl ?_
                  refine o_store (v := (.slice _ _ _)) 1 rfl Try.sizeOf39 rfl rfl rfl rfl ?_
                  refine o_nil ?_
                  refine d_nil (n := 2) (m := 6) (by kernel_rfl) rfl ?_
                  refine s_norm [_, [(_, .cells [(.int _ _), (.slice _ _ _)].toArray 41 (0, 0))], [(_, .cells [(.slice _ _ _), (.slice _ _ _)].toArray 38 (0, 0))], _, _, _, _, [(_, .cells [(.string _), (.int _ _), (.int _ _)].toArray 61 (0, 0))], [(_, .cells [(.slice _ _ _), (.int _ _), (.int _ _), (.int _ _)].toArray 147 (0, 0))], _] rfl ?_
                  refine s_forget [(0, (.slice _ _ _)), (4, (.slice _ _ _)), (5, (.pointer _)), (6, (.slice _ _ _)), (7, (.int _ _)), (8, (.pointer _)), (14, (.pointer _)), (22, (.int _ _)), (23, (.int _ _)), (68, (.int _ _)), (69, (.int _ _))] ⟨rfl, rfl, rfl, rfl, rfl, rfl, rfl, rfl, rfl, rfl, rfl, trivial⟩ (fun _f => ?_)
                  refine s_region ?_
                  refine o_val rfl rfl rfl (y_field0 Try.runUnderlying38 rfl Try.sizeOf36 rfl rfl) ?_
                  refine o_val rfl rfl rfl (y_load Try.isAgg36 rfl (cel_own 2 rfl rfl)) ?_
                  refine o_val rfl rfl rfl (y_loads (cs := [_, _]) Try.isAgg41 Try.sizeOf41 rfl rfl rfl (cels_own 1 rfl rfl)) ?_
                  refine o_lit (vs := [(0, .agg #[.int _ _, .slice _ _ _])]) rfl rfl (GenP_k10 _ _ _ _) (fun b80 => ?_)
                  refine o_append (sz := 2) (bytes := 32) (news := [(.int _ _), (.slice _ _ _)]) 3 rfl Try.underlying36 Try.type41 rfl rfl rfl rfl rfl hqo rfl rfl (Src.slice Try.underlying36 (cels_own 10 rfl rfl) rfl (by simp [Value.oneCell']) (by simp)) (by omega) (fun A81 c82 E83 ho84 hn85 => ?_)
                  have ho86 : OS A81 (q.ps.length + 1) c82 41 2 ((q.ps ++ [(PaR.mk ko A74 1 c75 [OvR.mk none 0 0 [] ((g.l.getD ko.toNat default).cs.getD (0 : Int).toNat default).kind 0 (((ks.getD ((g.l.getD ko.toNat default).cs.getD (0 : Int).toNat default).kind.toNat default).fs.getD (0 : Int).toNat default).low + kv)])]).flatMap encPa) E83 := os_snoc ho84 rfl
                  clear ho84
                  refine o_pull 4 ?_
                  refine o_pull 9 ?_
                  refine o_fuse ?_
                  refine o_val rfl rfl rfl (y_field0 Try.runUnderlying38 rfl Try.sizeOf36 rfl rfl) ?_
                  refine o_store (v := (.slice _ _ _)) 3 rfl Try.sizeOf36 rfl rfl rfl rfl ?_
                  refine o_nil ?_
                  refine s_norm [_, _, [(_, .cells [(.int _ _), (.slice _ _ _)].toArray 41 (0, 0))], [(_, .cells [(.slice _ _ _), (.slice _ _ _)].toArray 38 (0, 0))], _, _, _, [(_, .cells [(.string _), (.int _ _), (.int _ _)].toArray 61 (0, 0))], [(_, .cells [(.slice _ _ _), (.int _ _), (.int _ _), (.int _ _)].toArray 147 (0, 0))], [(_, .cells [(.int _ _), (.slice _ _ _)].toArray 41 (0, 0))]] rfl ?_
                  refine s_region ?_
                  refine o_val rfl rfl rfl (y_add rfl rfl (by simp only [inK]; omega)) ?_
                  refine o_val rfl rfl rfl (y_move (v := (.int _ _)) rfl) ?_
                  refine o_nil ?_
                  exact ⟨LQ6.mk (q.k + 1) (q.ps ++ [(PaR.mk ko A74 1 c75 [OvR.mk none 0 0 [] ((g.l.getD ko.toNat default).cs.getD (0 : Int).toNat default).kind 0 (((ks.getD ((g.l.getD ko.toNat default).cs.getD (0 : Int).toNat default).kind.toNat default).fs.getD (0 : Int).toNat default).low + kv)])]) A81 c82 E83 (E76 ++ q.P) sG', (by first | omega | (dsimp only; omega)), ⟨by dsimp only; omega, by dsimp only; rw [List.length_append]; exact ho86, all_snoc (fun y hy => ⟨(hqx y hy).1.sub inG_right, (hqx y hy).2⟩) ⟨⟨rfl, (ho79).2.1, by dsimp only; omega, (ho79).mem.ms inG_left, fun y hy => by rw [List.mem_singleton] at hy; rw [hy]; exact ⟨rfl, Nat.le_refl _, Nat.zero_le _, Cels.nil⟩⟩, ⟨hko0, hko1', (by decide : 1 ≤ 40), use_one hko0 hcs0 (show 0 < ((g.l.getD ko.toNat default).cs.getD (0 : Int).toNat default).vs.length by omega) (fits_low hfok hkv0 (hkv1 (by omega)))⟩⟩, by simp only [List.length_append, List.length_singleton]; omega, hst, hmq.trans inG_right⟩, ⟨(congrArg (Value.int .i64) (by (try dsimp only); omega)), rfl, rfl, rfl, rfl, rfl, rfl, rfl, rfl, rfl, trivial⟩, (by dsimp only; rw [List.length_append]; exact sub_picks [1, 2, 2, 0, 1, 1] rfl)⟩
                · refine o_lit (vs := [(0, .agg #[.slice _ _ _, .int _ _, .int _ _, .int _ _])]) rfl rfl (GenP_k9 _ _ _ _ _ _) (fun b87 => ?_)
                  refine o_nil ?_
                  refine d_now (i := 1) [] rfl (by kernel_rfl) (by kernel_rfl) (by kernel_rfl) rfl rfl rfl (y_load Try.isAgg39 rfl (cel_own 1 rfl rfl)) trivial ?_
                  refine d_eff (k := 17) (n := 2) (m := 6) rfl (by kernel_rfl) rfl ?_
                  refine o_newgroup ?_
                  refine o_append (sz := 4) (bytes := 48) (news := [(.slice _ _ _), (.int _ _), (.int _ _), (.int _ _)]) 9 rfl Try.underlying39 Try.type147 rfl rfl rfl rfl rfl (OS.nil 147 4) rfl rfl (Src.slice Try.underlying39 (cels_own 8 rfl rfl) rfl (by simp [Value.oneCell']) (by simp)) (by omega) (fun A88 c89 E90 ho91 hn92 => ?_)
                  have ho93 : OS A88 1 c89 147 4 (([OvR.mk none 0 0 [] ((g.l.getD ko.toNat default).cs.getD (0 : Int).toNat default).kind 0 (((ks.getD ((g.l.getD ko.toNat default).cs.getD (0 : Int).toNat default).kind.toNat default).fs.getD (0 : Int).toNat default).low + kv)] : List OvR).flatMap encOv) E90 := os_eq ho91 rfl
                  clear ho91
                  refine o_nil ?_
                  refine d_val (i := 18) rfl (by kernel_rfl) (by kernel_rfl) (by kernel_rfl) rfl rfl rfl (y_field0 Try.runUnderlying41 rfl Try.sizeOf39 rfl rfl) ?_
                  refine d_eff (k := 19) (n := 2) (m := 6) rfl (by kernel_rfl) rfl ?_
                  refine o_store (v := (.slice _ _ _)) 1 rfl Try.sizeOf39 rfl rfl rfl rfl ?_
                  refine o_nil ?_
                  refine d_nil (n := 2) (m := 6) (by kernel_rfl) rfl ?_
                  refine s_norm [_, [(_, .cells [(.int _ _), (.slice _ _ _)].toArray 41 (0, 0))], [(_, .cells [(.slice _ _ _), (.slice _ _ _)].toArray 38 (0, 0))], _, _, _, _, [(_, .cells [(.string _), (.int _ _), (.int _ _)].toArray 61 (0, 0))], [(_, .cells [(.slice _ _ _), (.int _ _), (.int _ _), (.int _ _)].toArray 147 (0, 0))], _] rfl ?_
                  refine s_forget [(0, (.slice _ _ _)), (4, (.slice _ _ _)), (5, (.pointer _)), (6, (.slice _ _ _)), (7, (.int _ _)), (8, (.pointer _)), (14, (.pointer _)), (22, (.int _ _)), (23, (.int _ _)), (68, (.int _ _)), (69, (.int _ _))] ⟨rfl, rfl, rfl, rfl, rfl, rfl, rfl, rfl, rfl, rfl, rfl, trivial⟩ (fun _f => ?_)
                  refine s_region ?_
                  refine o_val rfl rfl rfl (y_field0 Try.runUnderlying38 rfl Try.sizeOf36 rfl rfl) ?_
                  refine o_val rfl rfl rfl (y_load Try.isAgg36 rfl (cel_own 2 rfl rfl)) ?_
                  refine o_val rfl rfl rfl (y_loads (cs := [_, _]) Try.isAgg41 Try.sizeOf41 rfl rfl rfl (cels_own 1 rfl rfl)) ?_
                  refine o_lit (vs := [(0, .agg #[.int _ _, .slice _ _ _])]) rfl rfl (GenP_k10 _ _ _ _) (fun b94 => ?_)
                  refine o_append (sz := 2) (bytes := 32) (news := [(.int _ _), (.slice _ _ _)]) 3 rfl Try.underlying36 Try.type41 rfl rfl rfl rfl rfl hqo rfl rfl (Src.slice Try.underlying36 (cels_own 10 rfl rfl) rfl (by simp [Value.oneCell']) (by simp)) (by omega) (fun A95 c96 E97 ho98 hn99 => ?_)
                  have ho100 : OS A95 (q.ps.length + 1) c96 41 2 ((q.ps ++ [(PaR.mk ko A88 1 c89 [OvR.mk none 0 0 [] ((g.l.getD ko.toNat default).cs.getD (0 : Int).toNat default).kind 0 (((ks.getD ((g.l.getD ko.toNat default).cs.getD (0 : Int).toNat default).kind.toNat default).fs.getD (0 : Int).toNat default).low + kv)])]).flatMap encPa) E97 := os_snoc ho98 rfl
                  clear ho98
                  refine o_pull 4 ?_
                  refine o_pull 9 ?_
                  refine o_fuse ?_
                  refine o_val rfl rfl rfl (y_field0 Try.runUnderlying38 rfl Try.sizeOf36 rfl rfl) ?_
                  refine o_store (v := (.slice _ _ _)) 3 rfl Try.sizeOf36 rfl rfl rfl rfl ?_
                  refine o_nil ?_
                  refine s_norm [_, _, [(_, .cells [(.int _ _), (.slice _ _ _)].toArray 41 (0, 0))], [(_, .cells [(.slice _ _ _), (.slice _ _ _)].toArray 38 (0, 0))], _, _, _, [(_, .cells [(.string _), (.int _ _), (.int _ _)].toArray 61 (0, 0))], [(_, .cells [(.slice _ _ _), (.int _ _), (.int _ _), (.int _ _)].toArray 147 (0, 0))], [(_, .cells [(.int _ _), (.slice _ _ _)].toArray 41 (0, 0))]] rfl ?_
                  refine s_region ?_
                  refine o_val rfl rfl rfl (y_add rfl rfl (by simp only [inK]; omega)) ?_
                  refine o_val rfl rfl rfl (y_move (v := (.int _ _)) rfl) ?_
                  refine o_nil ?_
                  exact ⟨LQ6.mk (q.k + 1) (q.ps ++ [(PaR.mk ko A88 1 c89 [OvR.mk none 0 0 [] ((g.l.getD ko.toNat default).cs.getD (0 : Int).toNat default).kind 0 (((ks.getD ((g.l.getD ko.toNat default).cs.getD (0 : Int).toNat default).kind.toNat default).fs.getD (0 : Int).toNat default).low + kv)])]) A95 c96 E97 (E90 ++ q.P) sG', (by first | omega | (dsimp only; omega)), ⟨by dsimp only; omega, by dsimp only; rw [List.length_append]; exact ho100, all_snoc (fun y hy => ⟨(hqx y hy).1.sub inG_right, (hqx y hy).2⟩) ⟨⟨rfl, (ho93).2.1, by dsimp only; omega, (ho93).mem.ms inG_left, fun y hy => by rw [List.mem_singleton] at hy; rw [hy]; exact ⟨rfl, Nat.le_refl _, Nat.zero_le _, Cels.nil⟩⟩, ⟨hko0, hko1', (by decide : 1 ≤ 40), use_one hko0 hcs0 (show 0 < ((g.l.getD ko.toNat default).cs.getD (0 : Int).toNat default).vs.length by omega) (fits_low hfok hkv0 (hkv1 (by omega)))⟩⟩, by simp only [List.length_append, List.length_singleton]; omega, hst, hmq.trans inG_right⟩, ⟨(congrArg (Value.int .i64) (by (try dsimp only); omega)), rfl, rfl, rfl, rfl, rfl, rfl, rfl, rfl, rfl, trivial⟩, (by dsimp only; rw [List.length_append]; exact sub_picks [1, 2, 2, 0, 1, 1] rfl)⟩
            · refine s_skip ?_
              refine s_region ?_
              refine o_val rfl rfl rfl (y_field0 Try.runUnderlying38 rfl Try.sizeOf36 rfl rfl) ?_
              refine o_val rfl rfl rfl (y_load Try.isAgg36 rfl (cel_own 1 rfl rfl)) ?_
              refine o_val rfl rfl rfl (y_loads (cs := [_, _]) Try.isAgg41 Try.sizeOf41 rfl rfl rfl (cels_own 6 rfl rfl)) ?_
              refine o_lit (vs := [(0, .agg #[.int _ _, .slice _ _ _])]) rfl rfl (GenP_k10 _ _ _ _) (fun b101 => ?_)
              refine o_append (sz := 2) (bytes := 32) (news := [(.int _ _), (.slice _ _ _)]) 2 rfl Try.underlying36 Try.type41 rfl rfl rfl rfl rfl hqo rfl rfl (Src.slice Try.underlying36 (cels_own 7 rfl rfl) rfl (by simp [Value.oneCell']) (by simp)) (by omega) (fun A102 c103 E104 ho105 hn106 => ?_)
              have ho107 : OS A102 (q.ps.length + 1) c103 41 2 ((q.ps ++ [(PaR.mk ko none 0 0 [])]).flatMap encPa) E104 := os_snoc ho105 rfl
              clear ho105
              refine o_val rfl rfl rfl (y_field0 Try.runUnderlying38 rfl Try.sizeOf36 rfl rfl) ?_
              refine o_store (v := (.slice _ _ _)) 1 rfl Try.sizeOf36 rfl rfl rfl rfl ?_
              refine o_nil ?_
              refine s_norm [_, [(_, .cells [(.slice _ _ _), (.slice _ _ _)].toArray 38 (0, 0))], _, _, _, _, [(_, .cells [(.int _ _), (.slice _ _ _)].toArray 41 (0, 0))], [(_, .cells [(.int _ _), (.slice _ _ _)].toArray 41 (0, 0))]] rfl ?_
              refine s_region ?_
              refine o_val rfl rfl rfl (y_add rfl rfl (by simp only [inK]; omega)) ?_
              refine o_val rfl rfl rfl (y_move (v := (.int _ _)) rfl) ?_
              refine o_nil ?_
              exact ⟨LQ6.mk (q.k + 1) (q.ps ++ [(PaR.mk ko none 0 0 [])]) A102 c103 E104 (q.P) sG', (by first | omega | (dsimp only; omega)), ⟨by dsimp only; omega, by dsimp only; rw [List.length_append]; exact ho107, all_snoc (fun y hy => ⟨(hqx y hy).1, (hqx y hy).2⟩) ⟨⟨rfl, Nat.le_refl _, Nat.zero_le _, Cels.nil, fun y hy => absurd hy List.not_mem_nil⟩, ⟨hko0, hko1', Nat.zero_le _, _, rfl⟩⟩, by simp only [List.length_append, List.length_singleton]; omega, hst, hmq⟩, ⟨(congrArg (Value.int .i64) (by (try dsimp only); omega)), rfl, rfl, rfl, rfl, rfl, rfl, rfl, rfl, rfl, trivial⟩, (by dsimp only; rw [List.length_append]; exact sub_picks [0, 0, 0, 0, 0, 0] rfl)⟩
          · refine o_val rfl rfl rfl (y_move (v := (.bool _)) rfl) ?_
            refine o_guard_no rfl rfl rfl rfl rfl ?_
            refine o_guard_no rfl rfl rfl rfl rfl ?_
            refine o_guard_no rfl rfl rfl rfl rfl ?_
            refine o_guard_no rfl rfl rfl rfl rfl ?_
            refine o_guard_no rfl rfl rfl rfl rfl ?_
            refine o_guard_no rfl rfl rfl rfl rfl ?_
            refine o_val rfl rfl rfl (y_pick_f (v := (.bool _)) rfl rfl) ?_
            refine o_nil ?_
            refine s_forget [(0, (.slice _ _ _)), (4, (.slice _ _ _)), (5, (.pointer _)), (6, (.slice _ _ _)), (7, (.int _ _)), (8, (.pointer _)), (14, (.pointer _)), (15, (.slice _ _ _)), (22, (.int _ _)), (23, (.int _ _)), (68, (.int _ _)), (69, (.int _ _)), (93, (.bool _))] ⟨rfl, rfl, rfl, rfl, rfl, rfl, rfl, rfl, rfl, rfl, rfl, rfl, rfl, trivial⟩ (fun _f => ?_)
            refine s_else rfl ?_
            refine s_skip ?_
            refine s_region ?_
            refine o_val rfl rfl rfl (y_field0 Try.runUnderlying38 rfl Try.sizeOf36 rfl rfl) ?_
            refine o_val rfl rfl rfl (y_load Try.isAgg36 rfl (cel_own 1 rfl rfl)) ?_
            refine o_val rfl rfl rfl (y_loads (cs := [_, _]) Try.isAgg41 Try.sizeOf41 rfl rfl rfl (cels_own 6 rfl rfl)) ?_
            refine o_lit (vs := [(0, .agg #[.int _ _, .slice _ _ _])]) rfl rfl (GenP_k10 _ _ _ _) (fun b108 => ?_)
            refine o_append (sz := 2) (bytes := 32) (news := [(.int _ _), (.slice _ _ _)]) 2 rfl Try.underlying36 Try.type41 rfl rfl rfl rfl rfl hqo rfl rfl (Src.slice Try.underlying36 (cels_own 7 rfl rfl) rfl (by simp [Value.oneCell']) (by simp)) (by omega) (fun A109 c110 E111 ho112 hn113 => ?_)
            have ho114 : OS A109 (q.ps.length + 1) c110 41 2 ((q.ps ++ [(PaR.mk ko none 0 0 [])]).flatMap encPa) E111 := os_snoc ho112 rfl
            clear ho112
            refine o_val rfl rfl rfl (y_field0 Try.runUnderlying38 rfl Try.sizeOf36 rfl rfl) ?_
            refine o_store (v := (.slice _ _ _)) 1 rfl Try.sizeOf36 rfl rfl rfl rfl ?_
            refine o_nil ?_
            refine s_norm [_, [(_, .cells [(.slice _ _ _), (.slice _ _ _)].toArray 38 (0, 0))], _, _, _, _, [(_, .cells [(.int _ _), (.slice _ _ _)].toArray 41 (0, 0))], [(_, .cells [(.int _ _), (.slice _ _ _)].toArray 41 (0, 0))]] rfl ?_
            refine s_region ?_
            refine o_val rfl rfl rfl (y_add rfl rfl (by simp only [inK]; omega)) ?_
            refine o_val rfl rfl rfl (y_move (v := (.int _ _)) rfl) ?_
            refine o_nil ?_
            exact ⟨LQ6.mk (q.k + 1) (q.ps ++ [(PaR.mk ko none 0 0 [])]) A109 c110 E111 (q.P) sG', (by first | omega | (dsimp only; omega)), ⟨by dsimp only; omega, by dsimp only; rw [List.length_append]; exact ho114, all_snoc (fun y hy => ⟨(hqx y hy).1, (hqx y hy).2⟩) ⟨⟨rfl, Nat.le_refl _, Nat.zero_le _, Cels.nil, fun y hy => absurd hy List.not_mem_nil⟩, ⟨hko0, hko1', Nat.zero_le _, _, rfl⟩⟩, by simp only [List.length_append, List.length_singleton]; omega, hst, hmq⟩, ⟨(congrArg (Value.int .i64) (by (try dsimp only); omega)), rfl, rfl, rfl, rfl, rfl, rfl, rfl, rfl, rfl, trivial⟩, (by dsimp only; rw [List.length_append]; exact sub_picks [0, 0, 0, 0, 0, 0] rfl)⟩
      · refine s_exit ?_
        refine s_region ?_
        refine o_val rfl rfl rfl (y_move (v := (.slice _ _ _)) rfl) ?_
        refine o_val rfl rfl rfl (y_loads (cs := [_, _]) Try.isAgg38 Try.sizeOf38 rfl rfl rfl (cels_own 1 rfl rfl)) ?_
        refine o_lit (vs := [(0, .agg #[.slice _ _ _, .slice _ _ _])]) rfl rfl (GenP_k5 _ _ _ _ _ _) (fun b115 => ?_)
        refine o_append (sz := 2) (bytes := 48) (news := [(.slice _ _ _), (.slice _ _ _)]) 5 rfl Try.underlying25 Try.type38 rfl rfl rfl rfl rfl hlo rfl rfl (Src.slice Try.underlying25 (cels_own 6 rfl rfl) rfl (by simp [Value.oneCell']) (by simp)) (by omega) (fun A116 c117 E118 ho119 hn120 => ?_)
        have ho121 : OS A116 (g.l.length + 1) c117 38 2 ((g.l ++ [(PfR.mk u.A u.cs.length u.c u.cs q.A q.ps.length q.c q.ps)]).flatMap encPf) E118 := os_snoc ho119 rfl
        clear ho119
        refine o_val rfl rfl rfl (y_assign (v := (.slice _ _ _)) rfl) ?_
        refine o_nil ?_
        refine s_norm [_, [(_, .cells [(.slice _ _ _), (.slice _ _ _)].toArray 38 (0, 0))], _, _, _, _, [(_, .cells [(.slice _ _ _), (.slice _ _ _)].toArray 38 (0, 0))]] rfl ?_
        refine s_forget [(0, (.slice _ _ _)), (4, (.slice _ _ _)), (5, (.pointer _)), (6, (.slice _ _ _)), (22, (.int _ _)), (23, (.int _ _))] ⟨rfl, rfl, rfl, rfl, rfl, rfl, trivial⟩ (fun _f => ?_)
        refine s_region ?_
        refine o_pull 3 ?_
        refine o_pull 4 ?_
        refine o_fuse ?_
        refine o_pull 3 ?_
        refine o_fuse ?_
        refine o_val rfl rfl rfl (y_add rfl rfl (by simp only [inK]; omega)) ?_
        refine o_val rfl rfl rfl (y_move (v := (.int _ _)) rfl) ?_
        refine o_nil ?_
        exact ⟨LP6.mk (g.l ++ [(PfR.mk u.A u.cs.length u.c u.cs q.A q.ps.length q.c q.ps)]) A116 c117 E118 (q.E ++ (u.E ++ q.P)) q.S, (by simp only [List.length_append, List.length_singleton]; omega), ⟨by simp only [List.length_append, List.length_singleton]; omega, by dsimp only; rw [List.length_append]; exact ho121, all_snoc (fun x hx => (hlp x hx).sub (((hmu.trans hmq).trans inG_right).trans inG_right)) ⟨⟨rfl, hco.2.1, by dsimp only; omega, hco.mem.ms (inG_left.trans inG_right), fun y hy => (hcx y hy).sub ((hmq.trans inG_right).trans inG_right)⟩, ⟨rfl, hqo.2.1, by dsimp only; omega, hqo.mem.ms inG_left, fun y hy => (hqx y hy).1.sub (inG_right.trans inG_right)⟩⟩, okTs_snoc hlk (by omega) (by dsimp only; omega) (fun y hy => (hqx y hy).2) hch, hst⟩, ⟨(by dsimp only; rw [List.length_append]; rfl), (congrArg (Value.int .i64) (by simp only [List.length_append, List.length_singleton]; omega)), rfl, rfl, rfl, rfl, trivial⟩, (sub_picks [1, 2, 0] rfl)⟩
  · refine s_exit ?_
    refine s_seq ?_
    refine s_region ?_
    refine o_val rfl rfl rfl (y_move (v := (.slice _ _ _)) rfl) ?_
    refine o_val rfl rfl rfl (y_assign (v := (.slice _ _ _)) rfl) ?_
    refine o_nil ?_
    refine s_ret ?_
    exact ⟨_, [_, _], res1 rfl rfl, ⟨_, _, g.l, _, _, rfl, hlo, hlp, hlk, by omega, rfl⟩, sub_picks [1, 1] rfl⟩

end Go.Proofs.Ytacmbiohjiogiaa.K
