/- Walks over the package tourkeep4: a world changed. No condition beyond what each statement names. -/
import Derived.Test.YtacmbiohjiogiaaProg
import Derived.Test.YtacmbiohjiogiaaK17
import Derived.Test.YtacmbiohjiogiaaM1
import Derived.Test.YtacmbiohjiogiaaM2
import Derived.Test.YtacmbiohjiogiaaW1
import Derived.Test.YtacmbiohjiogiaaW2
import Derived.Test.YtacmbiohjiogiaaW3
import Derived.Test.YtacmbiohjiogiaaW4
import Derived.Test.YtacmbiohjiogiaaW5
import Derived.Test.YtacmbiohjiogiaaW6
import Derived.Test.YtacmbiohjiogiaaW7
import Derived.Test.YtacmbiohjiogiaaW8
import Derived.Test.YtacmbiohjiogiaaX1
import Derived.Test.YtacmbiohjiogiaaX2
import Derived.Test.YtacmbiohjiogiaaX3
import Derived.Test.YtacmbiohjiogiaaX4
import Derived.Test.YtacmbiohjiogiaaX5
import Derived.Test.YtacmbiohjiogiaaX6
set_option linter.unusedVariables false
set_option linter.unusedSimpArgs false
set_option maxRecDepth 100000
namespace Go.Proofs.Ytacmbiohjiogiaa.K
open Go.RowKit

structure LU7 where
  b : Nat
  gB : Option Addr
  ge : Nat
  gE : Grp
structure LX7 where
  k : Nat
  gs : List Int
  gE : Grp
  its : List IR
  iA : Option Addr
  iC : Nat
  iE : Grp
  P : Grp
  S : Grp
structure LY7 where
  j : Nat
  cs : List CR
  cA : Option Addr
  cC : Nat
  cE : Grp
  P : Grp
  S : Grp
structure LZ7 where
  q : Nat
  vs : List Int
  E : Grp
  S : Grp
/-- Numbers and items after the first items of a world were gone over. -/
def chgP (w : WR) (b : Int) (k : Nat) (gs : List Int) (its : List IR) : Prop :=
  gs.length = w.gs.length ∧ its.length ≤ k ∧ (∀ x ∈ its, x.e ≤ lastI w.its k) ∧ (∀ e : Nat, lastI w.its k < (e : Int) → gs.getD e 0 = w.gs.getD e 0) ∧ (∀ e : Nat, e < gs.length → 0 ≤ gs.getD e 0 ∧ gs.getD e 0 ≤ b + 1) ∧ itemsP w.ks gs its ∧ (∀ e : Nat, w.gs.getD e 0 ≤ gs.getD e 0)
theorem items_set {ks : List KR} {gs : List Int} {its : List IR} {e : Nat} {g : Int} (h : itemsP ks gs its) (hn : ∀ x ∈ its, x.e ≠ e) : itemsP ks (gs.set e g) its := fun j hj => by
  obtain ⟨h1, h2, h3, h4, h5⟩ := h j hj
  have h0 := lastI_ge' h (show j ≤ its.length by omega)
  have hm := hn (its.getD j default) (getD_mem' hj)
  refine ⟨h1, by rw [List.length_set]; exact h2, ?_, h4, h5⟩
  by_cases he : e < gs.length
  · rw [getD_set' he, if_neg (by omega)]; exact h3
  · rw [List.set_eq_of_length_le (by omega)]; exact h3
theorem lastI_le {its : List IR} {m : Int} (h : ∀ x ∈ its, x.e ≤ m) (hm : -1 ≤ m) : lastI its its.length ≤ m := by
  cases hcs : its.length with
  | zero => simp only [lastI]; omega
  | succ n => simp only [lastI]; exact h _ (getD_mem' (by omega))
theorem chg_start {w : WR} {b : Int} (h1 : gensP w.gs) (h2 : ∀ j, j < w.gs.length → w.gs.getD j 0 ≤ b) : chgP w b 0 w.gs [] :=
  ⟨rfl, Nat.le_refl _, fun x hx => absurd hx List.not_mem_nil, fun _ _ => rfl, fun e he => ⟨(h1 e he).1, by have := h2 e he; omega⟩, fun j hj => absurd hj (Nat.not_lt_zero j), fun _ => Int.le_refl _⟩
/-- An item is taken out. -/
theorem chg_gone {w : WR} {b : Int} {k : Nat} {gs : List Int} {its : List IR} (h : chgP w b k gs its) (hw : itemsP w.ks w.gs w.its) (hk : k < w.its.length) (h2 : ∀ j, j < w.gs.length → w.gs.getD j 0 ≤ b) : chgP w b (k + 1) (gs.set (w.its.getD k default).e.toNat (gs.getD (w.its.getD k default).e.toNat 0 + 1)) its := by
  obtain ⟨a1, a2, a3, a4, a5, a6, a7⟩ := h
  obtain ⟨i1, i2, i3, i4, i5⟩ := hw k hk
  have i0 := lastI_ge' hw (show k ≤ w.its.length by omega)
  have hg := a4 (w.its.getD k default).e.toNat (by omega)
  have hb := h2 (w.its.getD k default).e.toNat (by omega)
  refine ⟨by rw [List.length_set]; exact a1, by omega, fun x hx => by have := a3 x hx; simp only [lastI]; omega, fun e he => ?_, fun e he => ?_, items_set a6 (fun x hx => by have := a3 x hx; omega), fun e => ?_⟩
  · simp only [lastI] at he
    rw [getD_set' (by omega), if_neg (by omega)]; exact a4 e (by omega)
  · rw [List.length_set] at he
    rw [getD_set' (by omega)]
    split
    · have := a5 (w.its.getD k default).e.toNat (by omega); omega
    · exact a5 e he
  · rw [getD_set' (by omega)]
    split
    · rename_i e1; rw [e1]; omega
    · exact a7 e
/-- An item stays, with other components. -/
theorem chg_stay {w : WR} {b : Int} {k : Nat} {gs : List Int} {its : List IR} (h : chgP w b k gs its) (hw : itemsP w.ks w.gs w.its) (hk : k < w.its.length) {x : IR} (he : x.e = (w.its.getD k default).e) (hg : x.g = (w.its.getD k default).g) (hx : heldP w.ks x.cs) : chgP w b (k + 1) gs (its ++ [x]) := by
  obtain ⟨a1, a2, a3, a4, a5, a6, a7⟩ := h
  obtain ⟨i1, i2, i3, i4, i5⟩ := hw k hk
  have i0 := lastI_ge' hw (show k ≤ w.its.length by omega)
  have hgs := a4 (w.its.getD k default).e.toNat (by omega)
  have hl := lastI_le a3 (by omega)
  refine ⟨a1, by simp only [List.length_append, List.length_singleton]; omega, all_snoc (fun y hy => by have := a3 y hy; simp only [lastI]; omega) (by simp only [lastI]; omega), fun e he => a4 e (by simp only [lastI] at he; omega), a5, items_snoc a6 ⟨by omega, by omega, by rw [hg, he, hgs]; exact i3, by rw [hg]; exact i4, hx⟩, a7⟩
theorem chg_end {w : WR} {b : Int} {k : Nat} {gs : List Int} {its : List IR} (h : chgP w b k gs its) (hc : ckErr w.ks = 0) (hk : k ≤ w.its.length) (hn : w.its.length ≤ w.gs.length ∧ w.gs.length ≤ 255) (hb : b ≤ 1000000) : wErr w.ks gs its = 0 := by
  obtain ⟨a1, a2, a3, a4, a5, a6, a7⟩ := h
  exact wErr_ok hc (by omega) (fun j hj => by have := a5 j hj; omega) a6
theorem chg_more {w : WR} {b : Int} {k : Nat} {gs : List Int} {its : List IR} (h : chgP w b k gs its) (hw : itemsP w.ks w.gs w.its) (hc : ckErr w.ks = 0) (hk : k ≤ w.its.length) (hn : w.its.length ≤ w.gs.length ∧ w.gs.length ≤ 255) (hb : b ≤ 1000000) : wErr w.ks (gs ++ [0]) (its ++ [IR.mk (gs.length : Nat) 0 none 0 0 []]) = 0 := by
  obtain ⟨a1, a2, a3, a4, a5, a6, a7⟩ := h
  have hl : lastI w.its k < (w.gs.length : Int) := by
    cases k with
    | zero => simp only [lastI]; omega
    | succ k => simp only [lastI]; exact (hw k (by omega)).2.1
  have i0 := lastI_ge' hw hk
  have hl2 := lastI_le a3 i0
  refine wErr_ok hc (by simp only [List.length_append, List.length_singleton]; omega) (fun j hj => ?_) (items_snoc (items_more a6) ⟨by dsimp only; omega, by simp only [List.length_append, List.length_singleton]; omega, ?_, by dsimp only; omega, fun j hj => absurd hj (Nat.not_lt_zero j)⟩)
  · rw [List.length_append, List.length_singleton] at hj
    rw [getD_snoc hj]
    split
    · omega
    · have := a5 j (by omega); omega
  · dsimp only; rw [getD_snoc (by omega), if_pos (by omega)]
theorem lastC_ge' {ks : List KR} {cs : List CR} (h : heldP ks cs) {j : Nat} (hj : j ≤ cs.length) : -1 ≤ lastC cs j := lastC_ge fun i hi => h i (by omega)
theorem lastC_le {cs : List CR} {m : Int} (h : ∀ x ∈ cs, x.kind ≤ m) (hm : -1 ≤ m) : lastC cs cs.length ≤ m := by
  cases hcs : cs.length with
  | zero => simp only [lastC]; omega
  | succ n => simp only [lastC]; exact h _ (getD_mem' (by omega))
theorem fits_set {fs : List FR} {vs : List Int} {n q : Nat} {v : Int} (h : ∀ j, j < n → fitsV (fs.getD j default) (vs.getD j 0)) (hn : vs.length = n) (hq : q < n) (hv : fitsV (fs.getD q default) v) : ∀ j, j < n → fitsV (fs.getD j default) ((vs.set q v).getD j 0) := fun j hj => by
  rw [getD_set' (by omega)]
  split
  · rename_i e; rw [e]; exact hv
  · exact h j hj

theorem iok_nil (V : Mem) (e g : Int) : IOK V (IR.mk e g none 0 0 []) := ⟨rfl, Nat.zero_le _, Nat.zero_le _, Cels.nil, fun x hx => absurd hx List.not_mem_nil⟩

theorem Changed_k0 (v0A : Option Addr) (v0n : Nat) (v0c : Nat) (w : World) : (Instr.build 174 ([(0, (.slice v0A v0n v0c))] : List (Nat × Value)).toArray).run Try.prog w = .ok (.agg #[.slice v0A v0n v0c]) w := by kernel_rfl
theorem Changed_k1 (v0A : Option Addr) (v0n : Nat) (v0c : Nat) (v1A : Option Addr) (v1n : Nat) (v1c : Nat) (w : World) : (Instr.build 47 ([(0, (.slice v0A v0n v0c)), (1, (.slice v1A v1n v1c))] : List (Nat × Value)).toArray).run Try.prog w = .ok (.agg #[.slice v0A v0n v0c, .slice v1A v1n v1c, .slice none 0 0]) w := by kernel_rfl
theorem Changed_k2 (v0x0 : Int) (v0x1 : Int) (w : World) : (Instr.build 136 ([(0, (.agg #[(.int .i64 v0x0), (.int .i64 v0x1)]))] : List (Nat × Value)).toArray).run Try.prog w = .ok (.agg #[.int .i64 v0x0, .int .i64 v0x1, .slice none 0 0]) w := by kernel_rfl
theorem Changed_k3 (v0 : Int) (v1A : Option Addr) (v1n : Nat) (v1c : Nat) (w : World) : (Instr.build 155 ([(0, (.int .i64 v0)), (1, (.slice v1A v1n v1c))] : List (Nat × Value)).toArray).run Try.prog w = .ok (.agg #[.int .i64 v0, .slice v1A v1n v1c]) w := by kernel_rfl
theorem Changed_k4 (v0x0 : Int) (v0x1A : Option Addr) (v0x1n : Nat) (v0x1c : Nat) (w : World) : (Instr.buildSlice 33 1 ([(0, (.agg #[(.int .i64 v0x0), (.slice v0x1A v0x1n v0x1c)]))] : List (Nat × Value)).toArray).run Try.prog w = .ok (.slice (some ⟨w.heap.size, 0, none⟩) 1 1) { w with heap := w.heap.push (.cells ([.int .i64 v0x0, .slice v0x1A v0x1n v0x1c] : List Value).toArray 155 (0, 0)) } := by kernel_rfl
theorem Changed_k5 (v0x0 : Int) (v0x1 : Int) (v0x2A : Option Addr) (v0x2n : Nat) (v0x2c : Nat) (w : World) : (Instr.buildSlice 45 1 ([(0, (.agg #[(.int .i64 v0x0), (.int .i64 v0x1), (.slice v0x2A v0x2n v0x2c)]))] : List (Nat × Value)).toArray).run Try.prog w = .ok (.slice (some ⟨w.heap.size, 0, none⟩) 1 1) { w with heap := w.heap.push (.cells ([.int .i64 v0x0, .int .i64 v0x1, .slice v0x2A v0x2n v0x2c] : List Value).toArray 136 (0, 0)) } := by kernel_rfl
theorem Changed_k6 (v0 : Int) (w : World) : (Instr.build 117 ([(0, (.int .i64 v0))] : List (Nat × Value)).toArray).run Try.prog w = .ok (.agg #[.int .i64 v0, .int .i64 0]) w := by kernel_rfl
theorem Changed_k7 (v0 : Int) (w : World) : (Instr.buildSlice 22 1 ([(0, (.int .i64 v0))] : List (Nat × Value)).toArray).run Try.prog w = .ok (.slice (some ⟨w.heap.size, 0, none⟩) 1 1) { w with heap := w.heap.push (.cells ([.int .i64 v0] : List Value).toArray 3 (0, 0)) } := by kernel_rfl
theorem Changed_c {V V0 : Mem} (hm0 : MSub V0 V) (w : WR) (hw : WOK V0 w) (hv : wErr w.ks w.gs w.its = 0) (b : Int) (hb : 0 ≤ b ∧ b ≤ 1000000) (hgb : ∀ j, j < w.gs.length → w.gs.getD j 0 ≤ b) (h255 : w.gs.length ≤ 255) (A : Option Addr) (n c : Nat) (l : List Int) (h : Cels V [] A (l.map (.int .i64))) (hn : l.length = n) (hc : n ≤ c) : CallS Try.prog 24 [.agg #[.slice w.kA w.kn w.kc, .slice w.gA w.gn w.gc, .slice w.iA w.iN w.iC], .slice A n c].toArray V [] (fun r L' => ∃ (w' : WR) (G : Grp), r = .agg #[.slice w'.kA w'.kn w'.kc, .slice w'.gA w'.gn w'.gc, .slice w'.iA w'.iN w'.iC] ∧ WOK (orM V0 (inG G)) w' ∧ w'.ks = w.ks ∧ wErr w'.ks w'.gs w'.its = 0 ∧ w'.gs.length ≤ w.gs.length + 1 ∧ w'.its.length ≤ w.its.length + 1 ∧ w.gs.length ≤ w'.gs.length ∧ (∀ j, j < w.gs.length → w.gs.getD j 0 ≤ w'.gs.getD j 0) ∧ (∀ j, j < w'.gs.length → w'.gs.getD j 0 ≤ b + 1) ∧ L' = [G]) := by
  have hw0 := wErr_zero hv
  obtain ⟨⟨hwKl, hwKc, hwKb, hwK0, hwKK⟩, ⟨hwGl, hwGc, hwGb, hwG0⟩, ⟨hwIl, hwIc, hwIb, hwI0, hwII⟩⟩ := hw
  have hwK := hwK0.ms hm0
  have hwG := hwG0.ms hm0
  have hwI := hwI0.ms hm0
  have hw256 := hw0.2.1
  obtain ⟨hb0, hb⟩ := hb
  refine callS Try.func24 rfl rfl (fun w0 => ?_)
  refine s_seq ?_
  refine s_region ?_
  refine o_box (v := (.agg #[(.slice _ _ _), (.slice _ _ _), (.slice _ _ _)])) rfl rfl rfl (fun b1 => ?_)
  refine o_alloc rfl Try.zeroValue47 rfl (fun b2 => ?_)
  refine o_nil ?_
  refine s_seq ?_
  refine s_region ?_
  refine o_val rfl rfl rfl (y_move (v := (.slice _ _ _)) rfl) ?_
  refine o_val rfl rfl rfl (y_build (vs := [(0, .slice _ _ _)]) rfl (Changed_k0 _ _ _)) ?_
  refine o_box (v := (.agg #[(.slice _ _ _)])) rfl rfl rfl (fun b3 => ?_)
  refine o_val rfl rfl rfl (y_assign (v := (.pointer _)) rfl) ?_
  refine o_nil ?_
  refine s_joinK (γ := LU7) [(2, (.pointer _)), (4, (.pointer _)), (5, (.pointer _))] [_, _, _] (fun u => [(6, .pointer (some ⟨u.b, 0, none⟩))]) (fun u => [u.gE, [(u.b, .cells [.slice w.kA w.kn w.kc, .slice u.gB w.gn u.ge, .slice none 0 0].toArray 47 (0, 0))]]) (fun u => OS u.gB w.gn u.ge 3 1 ((w.gs).map (.int .i64)) u.gE) ⟨rfl, rfl, rfl, trivial⟩ [0, 0, 0] rfl ?_ ?_
  · refine s_drawn 0 (by kernel_rfl) ?_
    refine d_val (i := 0) rfl (by kernel_rfl) (by kernel_rfl) (by kernel_rfl) rfl rfl rfl (y_field0 Try.runUnderlying47 rfl Try.sizeOf23 rfl rfl) ?_
    refine d_val (i := 1) rfl (by kernel_rfl) (by kernel_rfl) (by kernel_rfl) rfl rfl rfl (y_load Try.isAgg23 rfl (cel_own 0 rfl rfl)) ?_
    refine d_val (i := 2) rfl (by kernel_rfl) (by kernel_rfl) (by kernel_rfl) rfl rfl rfl (y_field0 Try.runUnderlying47 rfl Try.sizeOf22 rfl rfl) ?_
    refine d_val (i := 3) rfl (by kernel_rfl) (by kernel_rfl) (by kernel_rfl) rfl rfl rfl (y_load Try.isAgg22 rfl (cel_own 0 rfl rfl)) ?_
    refine d_eff2 (k := 4) (k' := 6) (n := 0) (m := 3) rfl rfl (by kernel_rfl) rfl ?_ ?_
    · refine o_fn 0 (d := 22) rfl Try.call93 (CloneI_c w.gA w.gn w.gc w.gs hwG.here.down hwGl (by omega)) rfl ?_
      rintro _ _ ⟨gB, ge, gE, rfl, hgo, rfl⟩
      refine o_nil ?_
      refine d_val (i := 5) rfl (by kernel_rfl) (by kernel_rfl) (by kernel_rfl) rfl rfl rfl (y_build (vs := [(0, .slice _ _ _), (1, .slice _ _ _)]) rfl (Changed_k1 _ _ _ _ _ _)) ?_
      refine d_eff (k := 6) (n := 1) (m := 3) rfl (by kernel_rfl) rfl ?_
      refine o_alloc rfl Try.zeroValue47 rfl (fun b4 => ?_)
      refine o_nil ?_
      refine d_eff (k := 7) (n := 1) (m := 3) rfl (by kernel_rfl) rfl ?_
      refine o_stores (vs := [(.slice _ _ _), (.slice _ _ _), (.slice _ _ _)]) 4 rfl Try.sizeOf47 rfl rfl rfl (by simp [Value.oneCell']) (by simp) ?_
      refine o_nil ?_
      refine d_nil (n := 1) (m := 3) (by kernel_rfl) rfl ?_
      exact ⟨⟨b4, gB, ge, gE⟩, hgo, ⟨rfl, rfl, rfl, rfl, trivial⟩, (sub_picks [0, 3, 0, 0, 0] rfl)⟩
    · refine o_alloc rfl Try.zeroValue47 rfl (fun b5 => ?_)
      refine o_nil ?_
      refine d_eff (k := 4) (n := 0) (m := 3) rfl (by kernel_rfl) rfl ?_
      refine o_fn 0 (d := 22) rfl Try.call93 (CloneI_c w.gA w.gn w.gc w.gs hwG.here.down hwGl (by omega)) rfl ?_
      rintro _ _ ⟨gB, ge, gE, rfl, hgo, rfl⟩
      refine o_nil ?_
      refine d_val (i := 5) rfl (by kernel_rfl) (by kernel_rfl) (by kernel_rfl) rfl rfl rfl (y_build (vs := [(0, .slice _ _ _), (1, .slice _ _ _)]) rfl (Changed_k1 _ _ _ _ _ _)) ?_
      refine d_eff (k := 7) (n := 1) (m := 3) rfl (by kernel_rfl) rfl ?_
      refine o_stores (vs := [(.slice _ _ _), (.slice _ _ _), (.slice _ _ _)]) 4 rfl Try.sizeOf47 rfl rfl rfl (by simp [Value.oneCell']) (by simp) ?_
      refine o_nil ?_
      refine d_nil (n := 1) (m := 3) (by kernel_rfl) rfl ?_
      exact ⟨⟨b5, gB, ge, gE⟩, hgo, ⟨rfl, rfl, rfl, rfl, trivial⟩, (sub_picks [0, 3, 0, 0, 0] rfl)⟩
  intro u _f hgo
  refine s_norm _ (by simp only [pull, picks, setG, List.cons_append, List.nil_append, List.append_nil, List.drop_succ_cons, List.drop_zero]; rfl) ?_
  refine s_seq ?_
  refine s_seq ?_
  refine s_region ?_
  refine o_val rfl rfl rfl (y_field0 Try.runUnderlying47 rfl Try.sizeOf45 rfl rfl) ?_
  refine o_val rfl rfl rfl (y_load Try.isAgg45 rfl (cel_own 2 rfl rfl)) ?_
  refine o_val rfl rfl rfl (y_len Try.runUnderlying45 rfl) ?_
  refine o_val rfl rfl rfl (y_move (v := (.int _ _)) rfl) ?_
  refine o_nil ?_
  refine s_block ?_
  refine s_group ?_
  refine s_group ?_
  refine s_loopK (γ := LX7) [(2, (.pointer _)), (4, (.pointer _)), (5, (.pointer _)), (6, (.pointer _)), (25, (.slice _ _ _)), (26, (.int _ _))] [_, _] (fun g => [(27, .int .i64 g.k)]) (fun g => [g.S, g.gE, [(u.b, .cells [.slice w.kA w.kn w.kc, .slice u.gB w.gn u.ge, .slice g.iA g.its.length g.iC].toArray 47 (0, 0))], g.iE, g.P]) (fun g => g.k ≤ w.iN ∧ OS u.gB w.gn u.ge 3 1 ((g.gs).map (.int .i64)) g.gE ∧ OS g.iA g.its.length g.iC 136 3 ((g.its).flatMap encIt) g.iE ∧ (∀ x ∈ g.its, IOK (inG g.P) x) ∧ chgP w b g.k g.gs g.its ∧ Strm V b3 g.S) (fun g => w.iN - g.k) (LX7.mk 0 w.gs u.gE [] none 0 [] [] (stgrp b3 A n c)) ⟨rfl, rfl, rfl, rfl, rfl, rfl, rfl, trivial⟩ (sub_picks [4, 0, 0, 2, 2, 0, 0] rfl) ?_ ?_
  · exact ⟨Nat.zero_le _, hgo, OS.nil _ _, fun x hx => absurd hx List.not_mem_nil, chg_start hw0.2.2.1 hgb, Strm.new h hn hc⟩
  intro g _f hI
  refine s_norm _ (by simp only [pull, picks, setG, List.cons_append, List.nil_append, List.append_nil, List.drop_succ_cons, List.drop_zero]; rfl) ?_
  obtain ⟨hgk, hgo, hio, hii, hch, hst⟩ := hI
  have hgl := hch.1
  refine s_seq ?_
  refine s_region ?_
  refine o_val rfl rfl rfl (y_lss rfl rfl) ?_
  refine o_nil ?_
  refine s_seq ?_
  refine s_if rfl (fun h6 => ?_) (fun h7 => ?_)
  · refine s_skip ?_
    refine s_seq ?_
    refine s_block ?_
    refine s_seq ?_
    refine s_region ?_
    refine o_val rfl rfl rfl (y_indexAddr Try.runUnderlying45 Try.sizeOf136 (some_at (sz := 2) encIt_len (i := 0) hwI (by omega)) rfl rfl (by omega)) ?_
    refine o_val rfl rfl rfl (y_loads (cs := [_, _, _]) Try.isAgg136 Try.sizeOf136 rfl (by unfold idx; rw [Option.isSome_map]; exact some_at (sz := 2) encIt_len (i := 0) hwI (by omega)) rfl (cels_at (sz := 3) encIt_len hwI.here (by omega))) ?_
    have hii0 := hwII _ (getD_mem' (show g.k < w.its.length by omega) : (w.its.getD ((g.k : Nat) : Int).toNat default) ∈ w.its)
    have hgi : goodI w.ks w.gs (lastI w.its g.k) (w.its.getD ((g.k : Nat) : Int).toNat default) := hw0.2.2.2 g.k (by omega)
    have hheld : heldP w.ks (w.its.getD ((g.k : Nat) : Int).toNat default).cs := hgi.2.2.2.2
    have hxl := hii0.1
    have hxb := hii0.2.2.1
    refine o_alloc rfl Try.zeroValue136 rfl (fun b8 => ?_)
    refine o_stores (vs := [(.int _ _), (.int _ _), (.slice _ _ _)]) 7 rfl Try.sizeOf136 rfl rfl rfl (by simp [Value.oneCell']) (by simp) ?_
    refine o_nil ?_
    refine s_seq ?_
    refine s_region ?_
    refine o_val rfl rfl rfl (y_field0 Try.runUnderlying136 rfl Try.sizeOf117 rfl rfl) ?_
    refine o_val rfl rfl rfl (y_loads (cs := [_, _]) Try.isAgg117 Try.sizeOf117 rfl rfl rfl (cels_own 7 rfl rfl)) ?_
    refine o_val rfl rfl rfl (y_build (vs := [(0, .agg #[.int _ _, .int _ _])]) rfl (Changed_k2 _ _)) ?_
    refine o_alloc rfl Try.zeroValue136 rfl (fun b9 => ?_)
    refine o_stores (vs := [(.int _ _), (.int _ _), (.slice _ _ _)]) 8 rfl Try.sizeOf136 rfl rfl rfl (by simp [Value.oneCell']) (by simp) ?_
    refine o_nil ?_
    refine s_norm [_, _, [(_, .cells [(.slice _ _ _), (.slice _ _ _), (.slice _ _ _)].toArray 47 (0, 0))], _, _, [(_, .cells [(.slice _ _ _), (.slice _ _ _), (.slice _ _ _)].toArray 47 (0, 0))], [(_, .cells [(.slice _ _ _), (.slice _ _ _), (.slice _ _ _)].toArray 47 (0, 0))], [(_, .cells [(.int _ _), (.int _ _), (.slice _ _ _)].toArray 136 (0, 0))], [(_, .cells [(.int _ _), (.int _ _), (.slice _ _ _)].toArray 136 (0, 0))]] rfl ?_
    refine s_seq ?_
    refine s_seq ?_
    refine s_region ?_
    refine o_val rfl rfl rfl (y_field0 Try.runUnderlying136 rfl Try.sizeOf33 rfl rfl) ?_
    refine o_val rfl rfl rfl (y_load Try.isAgg33 rfl (cel_own 7 rfl rfl)) ?_
    refine o_val rfl rfl rfl (y_len Try.runUnderlying33 rfl) ?_
    refine o_val rfl rfl rfl (y_move (v := (.int _ _)) rfl) ?_
    refine o_nil ?_
    refine s_block ?_
    refine s_group ?_
    refine s_group ?_
    refine s_loopK (γ := LY7) [(2, (.pointer _)), (4, (.pointer _)), (5, (.pointer _)), (6, (.pointer _)), (9, (.pointer _)), (25, (.slice _ _ _)), (26, (.int _ _)), (27, (.int _ _)), (35, (.slice _ _ _)), (36, (.int _ _))] [_, _, _, _, _, _] (fun v => [(37, .int .i64 v.j)]) (fun v => [v.S, [(b9, .cells [.int .i64 (w.its.getD ((g.k : Nat) : Int).toNat default).e, .int .i64 (w.its.getD ((g.k : Nat) : Int).toNat default).g, .slice v.cA v.cs.length v.cC].toArray 136 (0, 0))], v.cE, v.P]) (fun v => v.j ≤ (w.its.getD ((g.k : Nat) : Int).toNat default).n ∧ OS v.cA v.cs.length v.cC 155 2 ((v.cs).flatMap encC) v.cE ∧ (∀ y ∈ v.cs, COK (inG v.P) y) ∧ heldP w.ks v.cs ∧ (∀ y ∈ v.cs, y.kind ≤ lastC (w.its.getD ((g.k : Nat) : Int).toNat default).cs v.j) ∧ v.cs.length ≤ v.j ∧ Strm V b3 v.S) (fun v => (w.its.getD ((g.k : Nat) : Int).toNat default).n - v.j) (LY7.mk 0 [] none 0 [] [] g.S) ⟨rfl, rfl, rfl, rfl, rfl, rfl, rfl, rfl, rfl, rfl, rfl, trivial⟩ (sub_picks [0, 7, 7, 7, 0, 0, 0, 0, 0, 0] rfl) ?_ ?_
    · exact ⟨Nat.zero_le _, OS.nil _ _, fun y hy => absurd hy List.not_mem_nil, fun j hj => absurd hj (Nat.not_lt_zero j), fun y hy => absurd hy List.not_mem_nil, Nat.zero_le _, hst⟩
    intro v _f hJ
    refine s_norm _ (by simp only [pull, picks, setG, List.cons_append, List.nil_append, List.append_nil, List.drop_succ_cons, List.drop_zero]; rfl) ?_
    obtain ⟨hvj, hco, hcx, hch2, hck2, hvl, hst⟩ := hJ
    refine s_seq ?_
    refine s_region ?_
    refine o_val rfl rfl rfl (y_lss rfl rfl) ?_
    refine o_nil ?_
    refine s_seq ?_
    refine s_if rfl (fun h10 => ?_) (fun h11 => ?_)
    · refine s_skip ?_
      refine s_seq ?_
      refine s_block ?_
      refine s_seq ?_
      refine s_region ?_
      refine o_val rfl rfl rfl (y_indexAddr Try.runUnderlying33 Try.sizeOf155 (some_at (sz := 1) encC_len (i := 0) (hii0.2.2.2.1.ms hm0) (by omega)) rfl rfl (by omega)) ?_
      refine o_val rfl rfl rfl (y_loads (cs := [_, _]) Try.isAgg155 Try.sizeOf155 rfl (by unfold idx; rw [Option.isSome_map]; exact some_at (sz := 1) encC_len (i := 0) (hii0.2.2.2.1.ms hm0) (by omega)) rfl (cels_at (sz := 2) encC_len (hii0.2.2.2.1.ms hm0).here (by omega))) ?_
      have hcc := hii0.2.2.2.2 _ (getD_mem' (show v.j < (w.its.getD ((g.k : Nat) : Int).toNat default).cs.length by omega) : ((w.its.getD ((g.k : Nat) : Int).toNat default).cs.getD ((v.j : Nat) : Int).toNat default) ∈ (w.its.getD ((g.k : Nat) : Int).toNat default).cs)
      have hcd : goodC w.ks (lastC (w.its.getD ((g.k : Nat) : Int).toNat default).cs v.j) ((w.its.getD ((g.k : Nat) : Int).toNat default).cs.getD ((v.j : Nat) : Int).toNat default) := hheld v.j (by omega)
      have hcg := lastC_ge' hheld (show v.j ≤ (w.its.getD ((g.k : Nat) : Int).toNat default).cs.length by omega)
      have hkl : lastC (w.its.getD ((g.k : Nat) : Int).toNat default).cs (v.j + 1) = ((w.its.getD ((g.k : Nat) : Int).toNat default).cs.getD ((v.j : Nat) : Int).toNat default).kind := rfl
      have hkp := hcd.1
      have hkn := hcd.2.1
      have hkk := hwKK _ (getD_mem' (show ((w.its.getD ((g.k : Nat) : Int).toNat default).cs.getD ((v.j : Nat) : Int).toNat default).kind.toNat < w.ks.length by omega) : (w.ks.getD ((w.its.getD ((g.k : Nat) : Int).toNat default).cs.getD ((v.j : Nat) : Int).toNat default).kind.toNat default) ∈ w.ks)
      have hhd := holds_fits hcd.2.2
      have hone := hhd.1
      have hfl := hkk.1
      have hcl := hcc.1
      have hcb := hcc.2.2.1
      have hhl := hhd.2.1
      have hf8 := (oneErr_zero hone).2.1
      refine o_alloc rfl Try.zeroValue155 rfl (fun b12 => ?_)
      refine o_stores (vs := [(.int _ _), (.slice _ _ _)]) 10 rfl Try.sizeOf155 rfl rfl rfl (by simp [Value.oneCell']) (by simp) ?_
      refine o_nil ?_
      refine s_seq ?_
      refine s_region ?_
      refine o_val rfl rfl rfl (y_field0 Try.runUnderlying155 rfl Try.sizeOf22 rfl rfl) ?_
      refine o_val rfl rfl rfl (y_load Try.isAgg22 rfl (cel_own 10 rfl rfl)) ?_
      refine o_fn 0 (d := 43) rfl Try.call93 (CloneI_c ((w.its.getD ((g.k : Nat) : Int).toNat default).cs.getD ((v.j : Nat) : Int).toNat default).A ((w.its.getD ((g.k : Nat) : Int).toNat default).cs.getD ((v.j : Nat) : Int).toNat default).n ((w.its.getD ((g.k : Nat) : Int).toNat default).cs.getD ((v.j : Nat) : Int).toNat default).c ((w.its.getD ((g.k : Nat) : Int).toNat default).cs.getD ((v.j : Nat) : Int).toNat default).vs ((hcc.2.2.2.ms hm0).here).down hcc.1 (by have := hcc.2.2.1; omega)) rfl ?_
      rintro _ _ ⟨vB, ve, vG, rfl, hvo, rfl⟩
      refine o_val rfl rfl rfl (y_assign (v := (.slice _ _ _)) rfl) ?_
      refine o_nil ?_
      refine s_seq ?_
      refine s_seq ?_
      refine s_region ?_
      refine o_val rfl rfl rfl (y_move (v := (.slice _ _ _)) rfl) ?_
      refine o_val rfl rfl rfl (y_len Try.runUnderlying22 rfl) ?_
      refine o_val rfl rfl rfl (y_move (v := (.int _ _)) rfl) ?_
      refine o_nil ?_
      refine s_block ?_
      refine s_loopK (γ := LZ7) [(2, (.pointer _)), (4, (.pointer _)), (5, (.pointer _)), (6, (.pointer _)), (9, (.pointer _)), (11, (.pointer _)), (12, (.slice _ _ _)), (25, (.slice _ _ _)), (26, (.int _ _)), (27, (.int _ _)), (35, (.slice _ _ _)), (36, (.int _ _)), (37, (.int _ _)), (45, (.int _ _))] [_, _, _, _, _, _, _, _, _, _] (fun z => [(46, .int .i64 z.q)]) (fun z => [z.S, z.E]) (fun z => z.q ≤ ((w.its.getD ((g.k : Nat) : Int).toNat default).cs.getD ((v.j : Nat) : Int).toNat default).n ∧ OS vB ((w.its.getD ((g.k : Nat) : Int).toNat default).cs.getD ((v.j : Nat) : Int).toNat default).n ve 3 1 ((z.vs).map (.int .i64)) z.E ∧ (∀ j, j < ((w.its.getD ((g.k : Nat) : Int).toNat default).cs.getD ((v.j : Nat) : Int).toNat default).n → fitsV ((w.ks.getD ((w.its.getD ((g.k : Nat) : Int).toNat default).cs.getD ((v.j : Nat) : Int).toNat default).kind.toNat default).fs.getD j default) (z.vs.getD j 0)) ∧ Strm V b3 z.S) (fun z => ((w.its.getD ((g.k : Nat) : Int).toNat default).cs.getD ((v.j : Nat) : Int).toNat default).n - z.q) (LZ7.mk 0 ((w.its.getD ((g.k : Nat) : Int).toNat default).cs.getD ((v.j : Nat) : Int).toNat default).vs vG v.S) ⟨rfl, rfl, rfl, rfl, rfl, rfl, rfl, rfl, rfl, rfl, rfl, rfl, rfl, rfl, rfl, trivial⟩ (sub_picks [1, 0, 0, 0, 0, 0, 0, 0, 0, 0, 0, 0] rfl) ?_ ?_
      · exact ⟨Nat.zero_le _, hvo, fun j hj => hhd.2.2 j (by omega), hst⟩
      intro z _f hZ
      refine s_norm _ (by simp only [pull, picks, setG, List.cons_append, List.nil_append, List.append_nil, List.drop_succ_cons, List.drop_zero]; rfl) ?_
      obtain ⟨hzq, hvo, hfit, hst⟩ := hZ
      have hzl : z.vs.length = ((w.its.getD ((g.k : Nat) : Int).toNat default).cs.getD ((v.j : Nat) : Int).toNat default).n := by simpa using hvo.len
      refine s_seq ?_
      refine s_region ?_
      refine o_val rfl rfl rfl (y_lss rfl rfl) ?_
      refine o_nil ?_
      refine s_seq ?_
      refine s_if rfl (fun h13 => ?_) (fun h14 => ?_)
      · refine s_skip ?_
        refine s_seq ?_
        refine s_block ?_
        refine s_seq ?_
        refine s_region ?_
        refine o_val rfl rfl rfl (y_move (v := (.int _ _)) rfl) ?_
        refine o_val rfl rfl rfl (y_assign (v := (.int _ _)) rfl) ?_
        refine o_nil ?_
        refine s_seq ?_
        refine s_region ?_
        refine o_val rfl rfl rfl (y_field0 Try.runUnderlying47 rfl Try.sizeOf23 rfl rfl) ?_
        refine o_val rfl rfl rfl (y_load Try.isAgg23 rfl (cel_own 9 rfl rfl)) ?_
        refine o_val rfl rfl rfl (y_field0 Try.runUnderlying155 rfl Try.sizeOf3 rfl rfl) ?_
        refine o_val rfl rfl rfl (y_load Try.isAgg3 rfl (cel_own 11 rfl rfl)) ?_
        refine o_val rfl rfl rfl (y_indexAddr Try.runUnderlying23 Try.sizeOf58 (some_at (sz := 1) encK_len (i := 0) hwK (by omega)) rfl rfl (by omega)) ?_
        refine o_val rfl rfl rfl (y_fieldX (F := 1) Try.runUnderlying58 rfl Try.sizeOf56 rfl (some_at (sz := 1) encK_len (i := 0) hwK (by omega)) rfl) ?_
        refine o_val rfl rfl rfl (y_load Try.isAgg56 rfl ((cels_at (sz := 2) encK_len hwK.here (by omega)).cel' (i := 1) rfl)) ?_
        refine o_val rfl rfl rfl (y_move (v := (.int _ _)) rfl) ?_
        refine o_val rfl rfl rfl (y_indexAddr Try.runUnderlying56 Try.sizeOf61 (some_at (sz := 2) encF_len (i := 0) (hkk.2.2.2.ms hm0) (by omega)) rfl rfl (by omega)) ?_
        refine o_val rfl rfl rfl (y_loads (cs := [_, _, _]) Try.isAgg61 Try.sizeOf61 rfl (by unfold idx; rw [Option.isSome_map]; exact some_at (sz := 2) encF_len (i := 0) (hkk.2.2.2.ms hm0) (by omega)) rfl (cels_at (sz := 3) encF_len (hkk.2.2.2.ms hm0).here (by omega))) ?_
        refine o_alloc rfl Try.zeroValue61 rfl (fun b15 => ?_)
        refine o_stores (vs := [(.string _), (.int _ _), (.int _ _)]) 12 rfl Try.sizeOf61 rfl rfl rfl (by simp [Value.oneCell']) (by simp) ?_
        refine o_nil ?_
        refine s_norm [_, _, [(_, .cells [(.int _ _), (.int _ _), (.slice _ _ _)].toArray 136 (0, 0))], _, _, _, [(_, .cells [(.slice _ _ _), (.slice _ _ _), (.slice _ _ _)].toArray 47 (0, 0))], _, _, [(_, .cells [(.slice _ _ _), (.slice _ _ _), (.slice _ _ _)].toArray 47 (0, 0))], [(_, .cells [(.slice _ _ _), (.slice _ _ _), (.slice _ _ _)].toArray 47 (0, 0))], [(_, .cells [(.int _ _), (.slice _ _ _)].toArray 155 (0, 0))], [(_, .cells [(.string _), (.int _ _), (.int _ _)].toArray 61 (0, 0))]] rfl ?_
        refine s_seq ?_
        refine s_region ?_
        refine o_val rfl rfl rfl (y_move (v := (.pointer _)) rfl) ?_
        refine o_fn 1 (d := 60) rfl Try.call87 (NextS_c hst (hm0 := MSub.ext) 4 (by omega)) rfl ?_
        rintro _ _ ⟨k4, sG', rfl, hk40, hk41, hst, rfl⟩
        refine o_val rfl rfl rfl (y_eql rfl rfl) ?_
        refine o_nil ?_
        refine s_forget [(2, (.pointer _)), (4, (.pointer _)), (5, (.pointer _)), (6, (.pointer _)), (9, (.pointer _)), (11, (.pointer _)), (12, (.slice _ _ _)), (13, (.int _ _)), (14, (.pointer _)), (25, (.slice _ _ _)), (26, (.int _ _)), (27, (.int _ _)), (35, (.slice _ _ _)), (36, (.int _ _)), (37, (.int _ _)), (45, (.int _ _)), (46, (.int _ _)), (61, (.bool _))] ⟨rfl, rfl, rfl, rfl, rfl, rfl, rfl, rfl, rfl, rfl, rfl, rfl, rfl, rfl, rfl, rfl, rfl, rfl, trivial⟩ (fun _f => ?_)
        refine s_if rfl (fun h16 => ?_) (fun h17 => ?_)
        · refine s_pull 1 ?_
          refine s_pull 1 ?_
          refine s_drawn 2 (by kernel_rfl) ?_
          have hfok : fOK ((w.ks.getD ((w.its.getD ((g.k : Nat) : Int).toNat default).cs.getD ((v.j : Nat) : Int).toNat default).kind.toNat default).fs.getD ((z.q : Nat) : Int).toNat default) := one_field hone (by omega)
          have hp := pow_bd ⟨hfok.2.1, hfok.2.2.1⟩
          have hlo := hfok.2.2.2
          refine d_val (i := 0) rfl (by kernel_rfl) (by kernel_rfl) (by kernel_rfl) rfl rfl rfl (y_move (v := (.slice _ _ _)) rfl) ?_
          refine d_val (i := 1) rfl (by kernel_rfl) (by kernel_rfl) (by kernel_rfl) rfl rfl rfl (y_move (v := (.int _ _)) rfl) ?_
          refine d_val (i := 2) rfl (by kernel_rfl) (by kernel_rfl) (by kernel_rfl) rfl rfl rfl (y_field0 Try.runUnderlying61 rfl Try.sizeOf3 rfl rfl) ?_
          refine d_val (i := 3) rfl (by kernel_rfl) (by kernel_rfl) (by kernel_rfl) rfl rfl rfl (y_load Try.isAgg3 rfl (cel_own 10 rfl rfl)) ?_
          refine d_val (i := 4) rfl (by kernel_rfl) (by kernel_rfl) (by kernel_rfl) rfl rfl rfl (y_move (v := (.pointer _)) rfl) ?_
          refine d_val (i := 5) rfl (by kernel_rfl) (by kernel_rfl) (by kernel_rfl) rfl rfl rfl (y_field0 Try.runUnderlying61 rfl Try.sizeOf3 rfl rfl) ?_
          refine d_val (i := 6) rfl (by kernel_rfl) (by kernel_rfl) (by kernel_rfl) rfl rfl rfl (y_load Try.isAgg3 rfl (cel_own 10 rfl rfl)) ?_
          refine d_val (i := 7) rfl (by kernel_rfl) (by kernel_rfl) (by kernel_rfl) rfl rfl rfl ((y_shl rfl rfl (by have := hfok.2.1; omega)).int (pow_bits ⟨hfok.2.1, hfok.2.2.1⟩)) ?_
          refine d_eff (k := 8) (n := 2) (m := 11) rfl (by kernel_rfl) rfl ?_
          refine o_fn 1 (d := 70) rfl Try.call87 (NextS_c hst (hm0 := MSub.ext) _ (by omega)) rfl ?_
          rintro _ _ ⟨kv, sG', rfl, hkv0, hkv1, hst, rfl⟩
          refine o_nil ?_
          refine d_val (i := 9) rfl (by kernel_rfl) (by kernel_rfl) (by kernel_rfl) rfl rfl rfl (y_add rfl rfl (by have := hkv1 (by omega); simp only [inK]; omega)) ?_
          refine d_val (i := 10) rfl (by kernel_rfl) (by kernel_rfl) (by kernel_rfl) rfl rfl rfl (y_index1 Try.runUnderlying22 Try.sizeOf3 (hvo.some_of (by omega)) rfl rfl (by omega)) ?_
          refine d_eff (k := 11) (n := 2) (m := 11) rfl (by kernel_rfl) rfl ?_
          refine o_store_os (vs := [(.int _ _)]) 1 rfl hvo Try.sizeOf3 rfl rfl rfl (by simp [Value.oneCell']) (by simp) (by simp; omega) (fun E18 ho19 => ?_)
          have ho20 := os_lay_int ho19 (by simp; omega)
          clear ho19
          refine o_nil ?_
          refine d_nil (n := 2) (m := 11) (by kernel_rfl) rfl ?_
          refine s_region ?_
          refine o_val rfl rfl rfl (y_add rfl rfl (by simp only [inK]; omega)) ?_
          refine o_val rfl rfl rfl (y_move (v := (.int _ _)) rfl) ?_
          refine o_nil ?_
          exact ⟨LZ7.mk (z.q + 1) (z.vs.set ((z.q : Nat) : Int).toNat (((w.ks.getD ((w.its.getD ((g.k : Nat) : Int).toNat default).cs.getD ((v.j : Nat) : Int).toNat default).kind.toNat default).fs.getD ((z.q : Nat) : Int).toNat default).low + kv)) E18 sG', (by first | omega | (dsimp only; omega)), ⟨by dsimp only; omega, ho20, fits_set hfit hzl (by omega) (fits_low hfok hkv0 (hkv1 (by omega))), hst⟩, ⟨(congrArg (Value.int .i64) (by (try dsimp only); omega)), rfl, rfl, rfl, rfl, rfl, rfl, rfl, rfl, rfl, rfl, rfl, rfl, rfl, rfl, trivial⟩, (sub_picks [0, 0, 0, 0, 0, 0, 0, 0, 0, 0, 0, 0] rfl)⟩
        · refine s_skip ?_
          refine s_region ?_
          refine o_val rfl rfl rfl (y_add rfl rfl (by simp only [inK]; omega)) ?_
          refine o_val rfl rfl rfl (y_move (v := (.int _ _)) rfl) ?_
          refine o_nil ?_
          exact ⟨LZ7.mk (z.q + 1) z.vs z.E sG', (by first | omega | (dsimp only; omega)), ⟨by dsimp only; omega, hvo, hfit, hst⟩, ⟨(congrArg (Value.int .i64) (by (try dsimp only); omega)), rfl, rfl, rfl, rfl, rfl, rfl, rfl, rfl, rfl, rfl, rfl, rfl, rfl, rfl, trivial⟩, (sub_picks [0, 0, 0, 0, 0, 0, 0, 0, 0, 0, 0, 0] rfl)⟩
      · refine s_exit ?_
        refine s_seq ?_
        refine s_region ?_
        refine o_val rfl rfl rfl (y_move (v := (.pointer _)) rfl) ?_
        refine o_fn 1 (d := 75) rfl Try.call87 (NextS_c hst (hm0 := MSub.ext) 8 (by omega)) rfl ?_
        rintro _ _ ⟨k8, sG', rfl, hk80, hk81, hst, rfl⟩
        refine o_val rfl rfl rfl (y_gtr rfl rfl) ?_
        refine o_nil ?_
        refine s_if rfl (fun h21 => ?_) (fun h22 => ?_)
        · refine s_region ?_
          refine o_val rfl rfl rfl (y_field0 Try.runUnderlying136 rfl Try.sizeOf33 rfl rfl) ?_
          refine o_val rfl rfl rfl (y_load Try.isAgg33 rfl (cel_own 2 rfl rfl)) ?_
          refine o_val rfl rfl rfl (y_field0 Try.runUnderlying155 rfl Try.sizeOf3 rfl rfl) ?_
          refine o_val rfl rfl rfl (y_load Try.isAgg3 rfl (cel_own 11 rfl rfl)) ?_
          refine o_val rfl rfl rfl (y_move (v := (.slice _ _ _)) rfl) ?_
          refine o_val rfl rfl rfl (y_build (vs := [(0, .int _ _), (1, .slice _ _ _)]) rfl (Changed_k3 _ _ _ _)) ?_
          refine o_lit (vs := [(0, .agg #[.int _ _, .slice _ _ _])]) rfl rfl (Changed_k4 _ _ _ _) (fun b23 => ?_)
          refine o_append (sz := 2) (bytes := 32) (news := [(.int _ _), (.slice _ _ _)]) 3 rfl Try.underlying33 Try.type155 rfl rfl rfl rfl rfl hco rfl rfl (Src.slice Try.underlying33 (cels_own 12 rfl rfl) rfl (by simp [Value.oneCell']) (by simp)) (by omega) (fun A24 c25 E26 ho27 hn28 => ?_)
          have ho29 : OS A24 (v.cs.length + 1) c25 155 2 ((v.cs ++ [newC ((w.its.getD ((g.k : Nat) : Int).toNat default).cs.getD ((v.j : Nat) : Int).toNat default).kind vB ((w.its.getD ((g.k : Nat) : Int).toNat default).cs.getD ((v.j : Nat) : Int).toNat default).n ve z.vs]).flatMap encC) E26 := os_snoc ho27 rfl
          clear ho27
          refine o_val rfl rfl rfl (y_field0 Try.runUnderlying136 rfl Try.sizeOf33 rfl rfl) ?_
          refine o_store (v := (.slice _ _ _)) 2 rfl Try.sizeOf33 rfl rfl rfl rfl ?_
          refine o_nil ?_
          refine s_norm [_, _, [(_, .cells [(.int _ _), (.int _ _), (.slice _ _ _)].toArray 136 (0, 0))], _, _, _, [(_, .cells [(.slice _ _ _), (.slice _ _ _), (.slice _ _ _)].toArray 47 (0, 0))], _, _, [(_, .cells [(.slice _ _ _), (.slice _ _ _), (.slice _ _ _)].toArray 47 (0, 0))], [(_, .cells [(.slice _ _ _), (.slice _ _ _), (.slice _ _ _)].toArray 47 (0, 0))], [(_, .cells [(.int _ _), (.slice _ _ _)].toArray 155 (0, 0))], [(_, .cells [(.int _ _), (.slice _ _ _)].toArray 155 (0, 0))]] rfl ?_
          refine s_region ?_
          refine o_pull 4 ?_
          refine o_pull 2 ?_
          refine o_fuse ?_
          refine o_val rfl rfl rfl (y_add rfl rfl (by simp only [inK]; omega)) ?_
          refine o_val rfl rfl rfl (y_move (v := (.int _ _)) rfl) ?_
          refine o_nil ?_
          exact ⟨LY7.mk (v.j + 1) (v.cs ++ [(newC ((w.its.getD ((g.k : Nat) : Int).toNat default).cs.getD ((v.j : Nat) : Int).toNat default).kind vB ((w.its.getD ((g.k : Nat) : Int).toNat default).cs.getD ((v.j : Nat) : Int).toNat default).n ve z.vs)]) A24 c25 E26 (z.E ++ v.P) sG', (by first | omega | (dsimp only; omega)), ⟨by dsimp only; omega, by dsimp only; rw [List.length_append]; exact ho29, all_snoc (fun y hy => (hcx y hy).sub inG_right) (cok_new hvo (by omega)), held_snoc hch2 ⟨by have := lastC_le hck2 (lastC_ge' hheld (by omega)); have := hcd.1; dsimp only [newC]; omega, by have := hcd.2.1; dsimp only [newC]; omega, by dsimp only [newC]; exact holds_of hone (by omega) (fun j hj => hfit j (by omega))⟩, all_snoc (fun y hy => by have := hck2 y hy; dsimp only; rw [hkl]; omega) (by simp only [lastC]; exact Int.le_refl _), by simp only [List.length_append, List.length_singleton]; omega, hst⟩, ⟨(congrArg (Value.int .i64) (by (try dsimp only); omega)), rfl, rfl, rfl, rfl, rfl, rfl, rfl, rfl, rfl, rfl, trivial⟩, (by dsimp only; rw [List.length_append]; exact sub_picks [1, 1, 1, 0, 0, 0, 0, 0, 0, 0] rfl)⟩
        · refine s_skip ?_
          refine s_region ?_
          refine o_pull 4 ?_
          refine o_pull 2 ?_
          refine o_fuse ?_
          refine o_val rfl rfl rfl (y_add rfl rfl (by simp only [inK]; omega)) ?_
          refine o_val rfl rfl rfl (y_move (v := (.int _ _)) rfl) ?_
          refine o_nil ?_
          exact ⟨LY7.mk (v.j + 1) v.cs v.cA v.cC v.cE (z.E ++ v.P) sG', (by first | omega | (dsimp only; omega)), ⟨by dsimp only; omega, hco, fun y hy => (hcx y hy).sub inG_right, hch2, fun y hy => by have := hck2 y hy; dsimp only; rw [hkl]; omega, by dsimp only; omega, hst⟩, ⟨(congrArg (Value.int .i64) (by (try dsimp only); omega)), rfl, rfl, rfl, rfl, rfl, rfl, rfl, rfl, rfl, rfl, trivial⟩, (sub_picks [1, 1, 1, 0, 0, 0, 0, 0, 0, 0] rfl)⟩
    · refine s_exit ?_
      refine s_seq ?_
      refine s_seq ?_
      refine s_region ?_
      refine o_val rfl rfl rfl (y_move (v := (.pointer _)) rfl) ?_
      refine o_fn 1 (d := 88) rfl Try.call87 (NextS_c hst (hm0 := MSub.ext) 8 (by omega)) rfl ?_
      rintro _ _ ⟨k9, sG', rfl, hk90, hk91, hst, rfl⟩
      refine o_val rfl rfl rfl (y_eql rfl rfl) ?_
      refine o_nil ?_
      refine s_if rfl (fun h30 => ?_) (fun h31 => ?_)
      · refine s_seq ?_
        refine s_region ?_
        have hg1 := hgi.1
        have hg2 := hgi.2.1
        have hg3 := lastI_ge' hw0.2.2.2 (show g.k ≤ w.its.length by omega)
        refine o_val rfl rfl rfl (y_field0 Try.runUnderlying47 rfl Try.sizeOf22 rfl rfl) ?_
        refine o_val rfl rfl rfl (y_load Try.isAgg22 rfl (cel_own 5 rfl rfl)) ?_
        refine o_val rfl rfl rfl (y_field0 Try.runUnderlying136 rfl Try.sizeOf117 rfl rfl) ?_
        refine o_val rfl rfl rfl (y_field0 Try.runUnderlying117 rfl Try.sizeOf3 rfl rfl) ?_
        refine o_val rfl rfl rfl (y_load Try.isAgg3 rfl (cel_own 1 rfl rfl)) ?_
        refine o_val rfl rfl rfl (y_index1 Try.runUnderlying22 Try.sizeOf3 (hgo.some_of (by omega)) rfl rfl (by omega)) ?_
        refine o_val rfl rfl rfl (y_load Try.isAgg3 rfl (cel_int (hgo.cels (j := 4) rfl) (by omega))) ?_
        refine o_val rfl rfl rfl (y_add rfl rfl (by have := hch.2.2.2.2.1 (w.its.getD ((g.k : Nat) : Int).toNat default).e.toNat (by omega); simp only [inK]; omega)) ?_
        refine o_val rfl rfl rfl (y_index1 Try.runUnderlying22 Try.sizeOf3 (hgo.some_of (by omega)) rfl rfl (by omega)) ?_
        refine o_store_os (vs := [(.int _ _)]) 4 rfl hgo Try.sizeOf3 rfl rfl rfl (by simp [Value.oneCell']) (by simp) (by first | omega | (simp only [List.length_map, List.length_singleton]; omega)) (fun E32 ho33 => ?_)
        have ho34 := os_lay_int ho33 (by first | omega | (simp only [List.length_map, List.length_singleton]; omega))
        clear ho33
        refine o_nil ?_
        refine s_forget [(2, (.pointer _)), (4, (.pointer _)), (5, (.pointer _)), (6, (.pointer _)), (9, (.pointer _)), (25, (.slice _ _ _)), (26, (.int _ _)), (27, (.int _ _))] ⟨rfl, rfl, rfl, rfl, rfl, rfl, rfl, rfl, trivial⟩ (fun _f => ?_)
        refine s_exit ?_
        refine s_region ?_
        refine o_pull 7 ?_
        refine o_pull 4 ?_
        refine o_fuse ?_
        refine o_pull 3 ?_
        refine o_fuse ?_
        refine o_val rfl rfl rfl (y_add rfl rfl (by simp only [inK]; omega)) ?_
        refine o_val rfl rfl rfl (y_move (v := (.int _ _)) rfl) ?_
        refine o_nil ?_
        exact ⟨LX7.mk (g.k + 1) (g.gs.set (w.its.getD ((g.k : Nat) : Int).toNat default).e.toNat (g.gs.getD (w.its.getD ((g.k : Nat) : Int).toNat default).e.toNat 0 + 1)) E32 g.its g.iA g.iC g.iE (v.cE ++ (v.P ++ g.P)) sG', (by first | omega | (dsimp only; omega)), ⟨by dsimp only; omega, ho34, hio, fun x hx => ((hii x hx).sub inG_right).sub inG_right, chg_gone hch hw0.2.2.2 (by omega) hgb, hst⟩, ⟨(congrArg (Value.int .i64) (by (try dsimp only); omega)), rfl, rfl, rfl, rfl, rfl, rfl, trivial⟩, (sub_picks [1, 2, 2, 2, 0, 1, 1] rfl)⟩
      · refine s_skip ?_
        refine s_region ?_
        refine o_val rfl rfl rfl (y_field0 Try.runUnderlying47 rfl Try.sizeOf45 rfl rfl) ?_
        refine o_val rfl rfl rfl (y_load Try.isAgg45 rfl (cel_own 5 rfl rfl)) ?_
        refine o_val rfl rfl rfl (y_loads (cs := [_, _, _]) Try.isAgg136 Try.sizeOf136 rfl rfl rfl (cels_own 1 rfl rfl)) ?_
        refine o_lit (vs := [(0, .agg #[.int _ _, .int _ _, .slice _ _ _])]) rfl rfl (Changed_k5 _ _ _ _ _) (fun b35 => ?_)
        refine o_append (sz := 3) (bytes := 40) (news := [(.int _ _), (.int _ _), (.slice _ _ _)]) 6 rfl Try.underlying45 Try.type136 rfl rfl rfl rfl rfl hio rfl rfl (Src.slice Try.underlying45 (cels_own 10 rfl rfl) rfl (by simp [Value.oneCell']) (by simp)) (by have := hch.2.1; omega) (fun A36 c37 E38 ho39 hn40 => ?_)
        have ho41 : OS A36 (g.its.length + 1) c37 136 3 ((g.its ++ [IR.mk (w.its.getD ((g.k : Nat) : Int).toNat default).e (w.its.getD ((g.k : Nat) : Int).toNat default).g v.cA v.cs.length v.cC v.cs]).flatMap encIt) E38 := os_snoc ho39 rfl
        clear ho39
        refine o_val rfl rfl rfl (y_field0 Try.runUnderlying47 rfl Try.sizeOf45 rfl rfl) ?_
        refine o_store (v := (.slice _ _ _)) 5 rfl Try.sizeOf45 rfl rfl rfl rfl ?_
        refine o_nil ?_
        refine s_norm [_, [(_, .cells [(.int _ _), (.int _ _), (.slice _ _ _)].toArray 136 (0, 0))], _, _, _, [(_, .cells [(.slice _ _ _), (.slice _ _ _), (.slice _ _ _)].toArray 47 (0, 0))], _, _, [(_, .cells [(.slice _ _ _), (.slice _ _ _), (.slice _ _ _)].toArray 47 (0, 0))], [(_, .cells [(.slice _ _ _), (.slice _ _ _), (.slice _ _ _)].toArray 47 (0, 0))], [(_, .cells [(.int _ _), (.int _ _), (.slice _ _ _)].toArray 136 (0, 0))]] rfl ?_
        refine s_region ?_
        refine o_pull 7 ?_
        refine o_pull 4 ?_
        refine o_fuse ?_
        refine o_pull 3 ?_
        refine o_fuse ?_
        refine o_val rfl rfl rfl (y_add rfl rfl (by simp only [inK]; omega)) ?_
        refine o_val rfl rfl rfl (y_move (v := (.int _ _)) rfl) ?_
        refine o_nil ?_
        exact ⟨LX7.mk (g.k + 1) g.gs g.gE (g.its ++ [(IR.mk (w.its.getD ((g.k : Nat) : Int).toNat default).e (w.its.getD ((g.k : Nat) : Int).toNat default).g v.cA v.cs.length v.cC v.cs)]) A36 c37 E38 (v.cE ++ (v.P ++ g.P)) sG', (by first | omega | (dsimp only; omega)), ⟨by dsimp only; omega, hgo, by dsimp only; rw [List.length_append]; exact ho41, all_snoc (fun x hx => ((hii x hx).sub inG_right).sub inG_right) ⟨rfl, hco.2.1, by dsimp only; omega, hco.mem.ms inG_left, fun y hy => ((hcx y hy).sub inG_left).sub inG_right⟩, chg_stay hch hw0.2.2.2 (by omega) rfl rfl hch2, hst⟩, ⟨(congrArg (Value.int .i64) (by (try dsimp only); omega)), rfl, rfl, rfl, rfl, rfl, rfl, trivial⟩, (by dsimp only; rw [List.length_append]; exact sub_picks [1, 2, 2, 2, 0, 1, 1] rfl)⟩
  · refine s_exit ?_
    refine s_seq ?_
    refine s_seq ?_
    refine s_region ?_
    refine o_val rfl rfl rfl (y_move (v := (.pointer _)) rfl) ?_
    refine o_fn 1 (d := 107) rfl Try.call87 (NextS_c hst (hm0 := MSub.ext) 3 (by omega)) rfl ?_
    rintro _ _ ⟨k3, sG', rfl, hk30, hk31, hst, rfl⟩
    refine o_val rfl rfl rfl (y_eql rfl rfl) ?_
    refine o_nil ?_
    refine s_if rfl (fun h42 => ?_) (fun h43 => ?_)
    · refine s_seq ?_
      refine s_region ?_
      refine o_val rfl rfl rfl (y_field0 Try.runUnderlying47 rfl Try.sizeOf45 rfl rfl) ?_
      refine o_val rfl rfl rfl (y_load Try.isAgg45 rfl (cel_own 2 rfl rfl)) ?_
      refine o_val rfl rfl rfl (y_field0 Try.runUnderlying47 rfl Try.sizeOf22 rfl rfl) ?_
      refine o_val rfl rfl rfl (y_load Try.isAgg22 rfl (cel_own 2 rfl rfl)) ?_
      refine o_val rfl rfl rfl (y_len Try.runUnderlying22 rfl) ?_
      refine o_val rfl rfl rfl (y_build (vs := [(0, .int _ _)]) rfl (Changed_k6 _)) ?_
      refine o_val rfl rfl rfl (y_build (vs := [(0, .agg #[.int _ _, .int _ _])]) rfl (Changed_k2 _ _)) ?_
      refine o_lit (vs := [(0, .agg #[.int _ _, .int _ _, .slice _ _ _])]) rfl rfl (Changed_k5 _ _ _ _ _) (fun b44 => ?_)
      refine o_append (sz := 3) (bytes := 40) (news := [(.int _ _), (.int _ _), (.slice _ _ _)]) 3 rfl Try.underlying45 Try.type136 rfl rfl rfl rfl rfl hio rfl rfl (Src.slice Try.underlying45 (cels_own 7 rfl rfl) rfl (by simp [Value.oneCell']) (by simp)) (by have := hch.2.1; omega) (fun A45 c46 E47 ho48 hn49 => ?_)
      have ho50 : OS A45 (g.its.length + 1) c46 136 3 ((g.its ++ [IR.mk (g.gs.length : Nat) 0 none 0 0 []]).flatMap encIt) E47 := os_snoc ho48 (by rw [hgl, hwGl]; rfl)
      clear ho48
      refine o_val rfl rfl rfl (y_field0 Try.runUnderlying47 rfl Try.sizeOf45 rfl rfl) ?_
      refine o_store (v := (.slice _ _ _)) 2 rfl Try.sizeOf45 rfl rfl rfl rfl ?_
      refine o_nil ?_
      refine s_norm [_, _, [(_, .cells [(.slice _ _ _), (.slice _ _ _), (.slice _ _ _)].toArray 47 (0, 0))], _, _, [(_, .cells [(.slice _ _ _), (.slice _ _ _), (.slice _ _ _)].toArray 47 (0, 0))], [(_, .cells [(.slice _ _ _), (.slice _ _ _), (.slice _ _ _)].toArray 47 (0, 0))], [(_, .cells [(.int _ _), (.int _ _), (.slice _ _ _)].toArray 136 (0, 0))]] rfl ?_
      refine s_forget [(4, (.pointer _)), (6, (.pointer _))] ⟨rfl, rfl, trivial⟩ (fun _f => ?_)
      refine s_region ?_
      refine o_val rfl rfl rfl (y_field0 Try.runUnderlying47 rfl Try.sizeOf22 rfl rfl) ?_
      refine o_val rfl rfl rfl (y_load Try.isAgg22 rfl (cel_own 2 rfl rfl)) ?_
      refine o_lit (vs := [(0, .int _ _)]) rfl rfl (Changed_k7 _) (fun b51 => ?_)
      refine o_append (sz := 1) (bytes := 8) (news := [(.int _ _)]) 1 rfl Try.underlying22 Try.type3 rfl rfl rfl rfl rfl hgo rfl rfl (Src.slice Try.underlying22 (cels_own 8 rfl rfl) rfl (by simp [Value.oneCell']) (by simp)) (by omega) (fun A52 c53 E54 ho55 hn56 => ?_)
      have ho57 : OS A52 (w.gn + 1) c53 3 1 ((g.gs ++ [0]).map (.int .i64)) E54 := (os_eq ho55 (by rw [List.map_append]; rfl))
      clear ho55
      refine o_val rfl rfl rfl (y_field0 Try.runUnderlying47 rfl Try.sizeOf22 rfl rfl) ?_
      refine o_store (v := (.slice _ _ _)) 2 rfl Try.sizeOf22 rfl rfl rfl rfl ?_
      refine o_nil ?_
      refine s_norm [_, _, [(_, .cells [(.slice _ _ _), (.slice _ _ _), (.slice _ _ _)].toArray 47 (0, 0))], _, _, [(_, .cells [(.slice _ _ _), (.slice _ _ _), (.slice _ _ _)].toArray 47 (0, 0))], [(_, .cells [(.slice _ _ _), (.slice _ _ _), (.slice _ _ _)].toArray 47 (0, 0))], [(_, .cells [(.int _ _), (.int _ _), (.slice _ _ _)].toArray 136 (0, 0))], [(_, .cells [(.int _ _)].toArray 3 (0, 0))]] rfl ?_
      refine s_seq ?_
      refine s_region ?_
      refine o_val rfl rfl rfl (y_loads (cs := [_, _, _]) Try.isAgg47 Try.sizeOf47 rfl rfl rfl (cels_own 2 rfl rfl)) ?_
      refine o_stores (vs := [(.slice _ _ _), (.slice _ _ _), (.slice _ _ _)]) 6 rfl Try.sizeOf47 rfl rfl rfl (by simp [Value.oneCell']) (by simp) ?_
      refine o_nil ?_
      refine s_ret ?_
      have hgk2 : g.k = w.iN := by omega
      have hil := hch.2.1
      have hall : ∀ (X : Grp), X ∈ ([E54, E47, g.P] : List Grp) → MSub (inG X) (orM V0 (inG ([E54, E47, g.P] : List Grp).flatten)) := fun X hX => (inG_mem hX).trans orM_right
      exact ⟨_, [([E54, E47, g.P] : List Grp).flatten], resv1 rfl (RV.cells (cs := [_, _, _]) rfl Try.isAgg47 Try.sizeOf47 rfl rfl (cels_own 6 rfl rfl)), ⟨⟨w.kA, w.kn, w.kc, w.ks, A52, w.gn + 1, c53, g.gs ++ [0], A45, g.its.length + 1, c46, g.its ++ [IR.mk (g.gs.length : Nat) 0 none 0 0 []]⟩, _, rfl, ⟨KsOK.sub ⟨hwKl, hwKc, hwKb, hwK0, hwKK⟩ orM_left, ⟨by simp only [List.length_append, List.length_singleton]; omega, ho57.2.1, by dsimp only; omega, ho57.mem.ms (hall _ (by simp))⟩, ⟨by simp, ho50.2.1, by dsimp only; omega, ho50.mem.ms (hall _ (by simp)), all_snoc (fun x hx => (hii x hx).sub (hall _ (by simp))) (iok_nil _ _ _)⟩⟩, rfl, chg_more (w := w) hch hw0.2.2.2 hw0.1 (by omega) (by omega) hb, by simp only [List.length_append, List.length_singleton]; omega, by simp only [List.length_append, List.length_singleton]; omega, by simp only [List.length_append, List.length_singleton]; omega, fun j hj => by dsimp only; rw [getD_snoc (by omega), if_neg (by omega)]; exact hch.2.2.2.2.2.2 j, fun j hj => by rw [List.length_append, List.length_singleton] at hj; rw [getD_snoc hj]; split; (· omega); (· exact (hch.2.2.2.2.1 j (by omega)).2), rfl⟩, Sub.trans sub_flat (sub_picks [1, 2, 2] rfl)⟩
    · refine s_skip ?_
      refine s_seq ?_
      refine s_region ?_
      refine o_val rfl rfl rfl (y_loads (cs := [_, _, _]) Try.isAgg47 Try.sizeOf47 rfl rfl rfl (cels_own 2 rfl rfl)) ?_
      refine o_stores (vs := [(.slice _ _ _), (.slice _ _ _), (.slice _ _ _)]) 6 rfl Try.sizeOf47 rfl rfl rfl (by simp [Value.oneCell']) (by simp) ?_
      refine o_nil ?_
      refine s_ret ?_
      have hgk2 : g.k = w.iN := by omega
      have hil := hch.2.1
      have hall : ∀ (X : Grp), X ∈ ([g.gE, g.iE, g.P] : List Grp) → MSub (inG X) (orM V0 (inG ([g.gE, g.iE, g.P] : List Grp).flatten)) := fun X hX => (inG_mem hX).trans orM_right
      exact ⟨_, [([g.gE, g.iE, g.P] : List Grp).flatten], resv1 rfl (RV.cells (cs := [_, _, _]) rfl Try.isAgg47 Try.sizeOf47 rfl rfl (cels_own 6 rfl rfl)), ⟨⟨w.kA, w.kn, w.kc, w.ks, u.gB, w.gn, u.ge, g.gs, g.iA, g.its.length, g.iC, g.its⟩, _, rfl, ⟨KsOK.sub ⟨hwKl, hwKc, hwKb, hwK0, hwKK⟩ orM_left, ⟨by dsimp only; omega, hgo.2.1, by dsimp only; omega, hgo.mem.ms (hall _ (by simp))⟩, ⟨rfl, hio.2.1, by dsimp only; omega, hio.mem.ms (hall _ (by simp)), fun x hx => (hii x hx).sub (hall _ (by simp))⟩⟩, rfl, chg_end (w := w) hch hw0.1 (by omega) (by omega) hb, by dsimp only; omega, by dsimp only; omega, by dsimp only; omega, fun j _ => hch.2.2.2.2.2.2 j, fun j hj => (hch.2.2.2.2.1 j hj).2, rfl⟩, Sub.trans sub_flat (sub_picks [1, 2, 2] rfl)⟩

end Go.Proofs.Ytacmbiohjiogiaa.K
