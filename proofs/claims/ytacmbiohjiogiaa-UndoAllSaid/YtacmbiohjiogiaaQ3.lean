/- Parts of the walk, in build order: rules, contracts, plain laws. No condition beyond what each statement names. -/
import Derived.Test.YtacmbiohjiogiaaQ2
import Derived.Test.YtacmbiohjiogiaaProg
section
set_option linter.unusedVariables false
set_option linter.unusedSimpArgs false
set_option maxRecDepth 100000
namespace Go.Proofs.Ytacmbiohjiogiaa.K
open Go.RowKit

structure LU7 where
 b : Nat
 gB : Option Addr
 ge : Nat
 gE : Grp
structure LX7 where
 k : Nat
 gs : List Int
 gE : Grp
 its : List IR
 iA : Option Addr
 iC : Nat
 iE : Grp
 P : Grp
 S : Grp
structure LY7 where
 j : Nat
 cs : List CR
 cA : Option Addr
 cC : Nat
 cE : Grp
 P : Grp
 S : Grp
structure LZ7 where
 q : Nat
 vs : List Int
 E : Grp
 S : Grp
/-- Numbers and items after the first items of a world were gone over. -/
def chgP (w : WR) (b : Int) (k : Nat) (gs : List Int) (its : List IR) : Prop :=
 gs.length = w.gs.length ∧ its.length ≤ k ∧ (∀ x ∈ its, x.e ≤ lastI w.its k) ∧ (∀ e : Nat, lastI w.its k < (e : Int) → gs.getD e 0 = w.gs.getD e 0) ∧ (∀ e : Nat, e < gs.length → 0 ≤ gs.getD e 0 ∧ gs.getD e 0 ≤ b + 1) ∧ itemsP w.ks gs its ∧ (∀ e : Nat, w.gs.getD e 0 ≤ gs.getD e 0)
theorem items_set {ks : List KR} {gs : List Int} {its : List IR} {e : Nat} {g : Int} (h : itemsP ks gs its) (hn : ∀ x ∈ its, x.e ≠ e) : itemsP ks (gs.set e g) its := fun j hj => by
 obtain ⟨h1, h2, h3, h4, h5⟩ := h j hj; have h0 := lastI_ge' h (show j ≤ its.length by omega); have hm := hn (its.getD j default) (getD_mem' hj); refine ⟨h1, by rw [List.length_set]; exact h2, ?_, h4, h5⟩
 by_cases he : e < gs.length
 ·rw [getD_set' he, if_neg (by omega)]; exact h3
 ·rw [List.set_eq_of_length_le (by omega)]; exact h3
theorem lastI_le {its : List IR} {m : Int} (h : ∀ x ∈ its, x.e ≤ m) (hm : -1 ≤ m) : lastI its its.length ≤ m := by
 cases hcs : its.length with
 | zero => simp only [lastI]; omega
 | succ n => simp only [lastI]; exact h _ (getD_mem' (by omega))
theorem chg_start {w : WR} {b : Int} (h1 : gensP w.gs) (h2 : ∀ j, j < w.gs.length → w.gs.getD j 0 ≤ b) : chgP w b 0 w.gs [] :=
 ⟨rfl, Nat.le_refl _, fun x hx => absurd hx List.not_mem_nil, fun _ _ => rfl, fun e he => ⟨(h1 e he).1, by have := h2 e he; omega⟩, fun j hj => absurd hj (Nat.not_lt_zero j), fun _ => Int.le_refl _⟩
/-- An item is taken out. -/
theorem chg_gone {w : WR} {b : Int} {k : Nat} {gs : List Int} {its : List IR} (h : chgP w b k gs its) (hw : itemsP w.ks w.gs w.its) (hk : k < w.its.length) (h2 : ∀ j, j < w.gs.length → w.gs.getD j 0 ≤ b) : chgP w b (k + 1) (gs.set (w.its.getD k default).e.toNat (gs.getD (w.its.getD k default).e.toNat 0 + 1)) its := by
 obtain ⟨a1, a2, a3, a4, a5, a6, a7⟩ := h; obtain ⟨i1, i2, i3, i4, i5⟩ := hw k hk; have i0 := lastI_ge' hw (show k ≤ w.its.length by omega); have hg := a4 (w.its.getD k default).e.toNat (by omega); have hb := h2 (w.its.getD k default).e.toNat (by omega); refine ⟨by rw [List.length_set]; exact a1, by omega, fun x hx => by have := a3 x hx; simp only [lastI]; omega, fun e he => ?_, fun e he => ?_, items_set a6 (fun x hx => by have := a3 x hx; omega), fun e => ?_⟩
 ·simp only [lastI] at he; rw [getD_set' (by omega), if_neg (by omega)]; exact a4 e (by omega)
 ·rw [List.length_set] at he; rw [getD_set' (by omega)]
  split
  ·have := a5 (w.its.getD k default).e.toNat (by omega); omega
  ·exact a5 e he
 ·rw [getD_set' (by omega)]
  split
  ·rename_i e1; rw [e1]; omega
  ·exact a7 e
/-- An item stays, with other components. -/
theorem chg_stay {w : WR} {b : Int} {k : Nat} {gs : List Int} {its : List IR} (h : chgP w b k gs its) (hw : itemsP w.ks w.gs w.its) (hk : k < w.its.length) {x : IR} (he : x.e = (w.its.getD k default).e) (hg : x.g = (w.its.getD k default).g) (hx : heldP w.ks x.cs) : chgP w b (k + 1) gs (its ++ [x]) := by
 obtain ⟨a1, a2, a3, a4, a5, a6, a7⟩ := h; obtain ⟨i1, i2, i3, i4, i5⟩ := hw k hk; have i0 := lastI_ge' hw (show k ≤ w.its.length by omega); have hgs := a4 (w.its.getD k default).e.toNat (by omega); have hl := lastI_le a3 (by omega); refine ⟨a1, by simp only [List.length_append, List.length_singleton]; omega, all_snoc (fun y hy => by have := a3 y hy; simp only [lastI]; omega) (by simp only [lastI]; omega), fun e he => a4 e (by simp only [lastI] at he; omega), a5, items_snoc a6 ⟨by omega, by omega, by rw [hg, he, hgs]; exact i3, by rw [hg]; exact i4, hx⟩, a7⟩
theorem chg_end {w : WR} {b : Int} {k : Nat} {gs : List Int} {its : List IR} (h : chgP w b k gs its) (hc : ckErr w.ks = 0) (hk : k ≤ w.its.length) (hn : w.its.length ≤ w.gs.length ∧ w.gs.length ≤ 255) (hb : b ≤ 1000000) : wErr w.ks gs its = 0 := by
 obtain ⟨a1, a2, a3, a4, a5, a6, a7⟩ := h; exact wErr_ok hc (by omega) (fun j hj => by have := a5 j hj; omega) a6
theorem chg_more {w : WR} {b : Int} {k : Nat} {gs : List Int} {its : List IR} (h : chgP w b k gs its) (hw : itemsP w.ks w.gs w.its) (hc : ckErr w.ks = 0) (hk : k ≤ w.its.length) (hn : w.its.length ≤ w.gs.length ∧ w.gs.length ≤ 255) (hb : b ≤ 1000000) : wErr w.ks (gs ++ [0]) (its ++ [IR.mk (gs.length : Nat) 0 none 0 0 []]) = 0 := by
 obtain ⟨a1, a2, a3, a4, a5, a6, a7⟩ := h; have hl : lastI w.its k < (w.gs.length : Int) := by
  cases k with
  | zero => simp only [lastI]; omega
  | succ k => simp only [lastI]; exact (hw k (by omega)).2.1
 have i0 := lastI_ge' hw hk; have hl2 := lastI_le a3 i0; refine wErr_ok hc (by simp only [List.length_append, List.length_singleton]; omega) (fun j hj => ?_) (items_snoc (items_more a6) ⟨by dsimp only; omega, by simp only [List.length_append, List.length_singleton]; omega, ?_, by dsimp only; omega, fun j hj => absurd hj (Nat.not_lt_zero j)⟩)
 ·rw [List.length_append, List.length_singleton] at hj; rw [getD_snoc hj]
  split
  ·omega
  ·have := a5 j (by omega); omega
 ·dsimp only; rw [getD_snoc (by omega), if_pos (by omega)]
theorem lastC_ge' {ks : List KR} {cs : List CR} (h : heldP ks cs) {j : Nat} (hj : j ≤ cs.length) : -1 ≤ lastC cs j := lastC_ge fun i hi => h i (by omega)
theorem lastC_le {cs : List CR} {m : Int} (h : ∀ x ∈ cs, x.kind ≤ m) (hm : -1 ≤ m) : lastC cs cs.length ≤ m := by
 cases hcs : cs.length with
 | zero => simp only [lastC]; omega
 | succ n => simp only [lastC]; exact h _ (getD_mem' (by omega))
theorem fits_set {fs : List FR} {vs : List Int} {n q : Nat} {v : Int} (h : ∀ j, j < n → fitsV (fs.getD j default) (vs.getD j 0)) (hn : vs.length = n) (hq : q < n) (hv : fitsV (fs.getD q default) v) : ∀ j, j < n → fitsV (fs.getD j default) ((vs.set q v).getD j 0) := fun j hj => by
 rw [getD_set' (by omega)]
 split
 ·rename_i e; rw [e]; exact hv
 ·exact h j hj

theorem iok_nil (V : Mem) (e g : Int) : IOK V (IR.mk e g none 0 0 []) := ⟨rfl, Nat.zero_le _, Nat.zero_le _, Cels.nil, fun x hx => absurd hx List.not_mem_nil⟩

theorem Changed_k0 (v0A : Option Addr) (v0n : Nat) (v0c : Nat) (w : World) : (Instr.build 174 ([(0, (.slice v0A v0n v0c))] : List (Nat × Value)).toArray).run Try.prog w = .ok (.agg #[.slice v0A v0n v0c]) w := by kernel_rfl
theorem Changed_k1 (v0A : Option Addr) (v0n : Nat) (v0c : Nat) (v1A : Option Addr) (v1n : Nat) (v1c : Nat) (w : World) : (Instr.build 47 ([(0, (.slice v0A v0n v0c)), (1, (.slice v1A v1n v1c))] : List (Nat × Value)).toArray).run Try.prog w = .ok (.agg #[.slice v0A v0n v0c, .slice v1A v1n v1c, .slice none 0 0]) w := by kernel_rfl
theorem Changed_k2 (v0x0 : Int) (v0x1 : Int) (w : World) : (Instr.build 136 ([(0, (.agg #[(.int .i64 v0x0), (.int .i64 v0x1)]))] : List (Nat × Value)).toArray).run Try.prog w = .ok (.agg #[.int .i64 v0x0, .int .i64 v0x1, .slice none 0 0]) w := by kernel_rfl
theorem Changed_k3 (v0 : Int) (v1A : Option Addr) (v1n : Nat) (v1c : Nat) (w : World) : (Instr.build 155 ([(0, (.int .i64 v0)), (1, (.slice v1A v1n v1c))] : List (Nat × Value)).toArray).run Try.prog w = .ok (.agg #[.int .i64 v0, .slice v1A v1n v1c]) w := by kernel_rfl
theorem Changed_k4 (v0x0 : Int) (v0x1A : Option Addr) (v0x1n : Nat) (v0x1c : Nat) (w : World) : (Instr.buildSlice 33 1 ([(0, (.agg #[(.int .i64 v0x0), (.slice v0x1A v0x1n v0x1c)]))] : List (Nat × Value)).toArray).run Try.prog w = .ok (.slice (some ⟨w.heap.size, 0, none⟩) 1 1) { w with heap := w.heap.push (.cells ([.int .i64 v0x0, .slice v0x1A v0x1n v0x1c] : List Value).toArray 155 (0, 0)) } := by kernel_rfl
theorem Changed_k5 (v0x0 : Int) (v0x1 : Int) (v0x2A : Option Addr) (v0x2n : Nat) (v0x2c : Nat) (w : World) : (Instr.buildSlice 45 1 ([(0, (.agg #[(.int .i64 v0x0), (.int .i64 v0x1), (.slice v0x2A v0x2n v0x2c)]))] : List (Nat × Value)).toArray).run Try.prog w = .ok (.slice (some ⟨w.heap.size, 0, none⟩) 1 1) { w with heap := w.heap.push (.cells ([.int .i64 v0x0, .int .i64 v0x1, .slice v0x2A v0x2n v0x2c] : List Value).toArray 136 (0, 0)) } := by kernel_rfl
theorem Changed_k6 (v0 : Int) (w : World) : (Instr.build 117 ([(0, (.int .i64 v0))] : List (Nat × Value)).toArray).run Try.prog w = .ok (.agg #[.int .i64 v0, .int .i64 0]) w := by kernel_rfl
theorem Changed_k7 (v0 : Int) (w : World) : (Instr.buildSlice 22 1 ([(0, (.int .i64 v0))] : List (Nat × Value)).toArray).run Try.prog w = .ok (.slice (some ⟨w.heap.size, 0, none⟩) 1 1) { w with heap := w.heap.push (.cells ([.int .i64 v0] : List Value).toArray 3 (0, 0)) } := by kernel_rfl
theorem Changed_c {V V0 : Mem} (hm0 : MSub V0 V) (w : WR) (hw : WOK V0 w) (hv : wErr w.ks w.gs w.its = 0) (b : Int) (hb : 0 ≤ b ∧ b ≤ 1000000) (hgb : ∀ j, j < w.gs.length → w.gs.getD j 0 ≤ b) (h255 : w.gs.length ≤ 255) (A : Option Addr) (n c : Nat) (l : List Int) (h : Cels V [] A (l.map (.int .i64))) (hn : l.length = n) (hc : n ≤ c) : CallS Try.prog 24 [.agg #[.slice w.kA w.kn w.kc, .slice w.gA w.gn w.gc, .slice w.iA w.iN w.iC], .slice A n c].toArray V [] (fun r L' => ∃ (w' : WR) (G : Grp), r = .agg #[.slice w'.kA w'.kn w'.kc, .slice w'.gA w'.gn w'.gc, .slice w'.iA w'.iN w'.iC] ∧ WOK (orM V0 (inG G)) w' ∧ w'.ks = w.ks ∧ wErr w'.ks w'.gs w'.its = 0 ∧ w'.gs.length ≤ w.gs.length + 1 ∧ w'.its.length ≤ w.its.length + 1 ∧ w.gs.length ≤ w'.gs.length ∧ (∀ j, j < w.gs.length → w.gs.getD j 0 ≤ w'.gs.getD j 0) ∧ (∀ j, j < w'.gs.length → w'.gs.getD j 0 ≤ b + 1) ∧ L' = [G]) := by
 have hw0 := wErr_zero hv; obtain ⟨⟨hwKl, hwKc, hwKb, hwK0, hwKK⟩, ⟨hwGl, hwGc, hwGb, hwG0⟩, ⟨hwIl, hwIc, hwIb, hwI0, hwII⟩⟩ := hw; have hwK := hwK0.ms hm0; have hwG := hwG0.ms hm0; have hwI := hwI0.ms hm0; have hw256 := hw0.2.1; obtain ⟨hb0, hb⟩ := hb; refine callS Try.func24 rfl rfl (fun w0 => ?_); refine s_seq (s_region ?_); refine o_box (v := (.agg #[(.slice _ _ _), (.slice _ _ _), (.slice _ _ _)])) rfl rfl rfl (fun b1 => ?_); refine o_alloc rfl Try.zeroValue47 rfl (fun b2 => ?_); refine o_nil ?_; refine s_seq (s_region ?_); refine o_val rfl rfl rfl (y_move (v := (.slice _ _ _)) rfl) ?_; refine o_val rfl rfl rfl (y_build (vs := [(0, .slice _ _ _)]) rfl (Changed_k0 _ _ _)) ?_; refine o_box (v := (.agg #[(.slice _ _ _)])) rfl rfl rfl (fun b3 => ?_); refine o_val rfl rfl rfl (y_assign (v := (.pointer _)) rfl) (o_nil ?_); refine s_joinK (γ := LU7) [(2, (.pointer _)), (4, (.pointer _)), (5, (.pointer _))] [_, _, _] (fun u => [(6, .pointer (some ⟨u.b, 0, none⟩))]) (fun u => [u.gE, [(u.b, .cells [.slice w.kA w.kn w.kc, .slice u.gB w.gn u.ge, .slice none 0 0].toArray 47 (0, 0))]]) (fun u => OS u.gB w.gn u.ge 3 1 ((w.gs).map (.int .i64)) u.gE) ⟨rfl, rfl, rfl, trivial⟩ [0, 0, 0] rfl ?_ ?_
 ·refine s_drawn 0 (by kernel_rfl) ?_; refine d_val (i := 0) rfl (by kernel_rfl) (by kernel_rfl) (by kernel_rfl) rfl rfl rfl (y_field0 Try.runUnderlying47 rfl Try.sizeOf23 rfl rfl) ?_; refine d_val (i := 1) rfl (by kernel_rfl) (by kernel_rfl) (by kernel_rfl) rfl rfl rfl (y_load Try.isAgg23 rfl (cel_own 0 rfl rfl)) ?_; refine d_val (i := 2) rfl (by kernel_rfl) (by kernel_rfl) (by kernel_rfl) rfl rfl rfl (y_field0 Try.runUnderlying47 rfl Try.sizeOf22 rfl rfl) ?_; refine d_val (i := 3) rfl (by kernel_rfl) (by kernel_rfl) (by kernel_rfl) rfl rfl rfl (y_load Try.isAgg22 rfl (cel_own 0 rfl rfl)) ?_; refine d_eff2 (k := 4) (k' := 6) (n := 0) (m := 3) rfl rfl (by kernel_rfl) rfl ?_ ?_
  ·refine o_fn 0 (d := 22) rfl Try.call93 (CloneI_c w.gA w.gn w.gc w.gs hwG.here.down hwGl (by omega)) rfl ?_; rintro _ _ ⟨gB, ge, gE, rfl, hgo, rfl⟩; refine o_nil ?_; refine d_val (i := 5) rfl (by kernel_rfl) (by kernel_rfl) (by kernel_rfl) rfl rfl rfl (y_build (vs := [(0, .slice _ _ _), (1, .slice _ _ _)]) rfl (Changed_k1 _ _ _ _ _ _)) ?_; refine d_eff (k := 6) (n := 1) (m := 3) rfl (by kernel_rfl) rfl ?_; refine o_alloc rfl Try.zeroValue47 rfl (fun b4 => ?_); refine o_nil ?_; refine d_eff (k := 7) (n := 1) (m := 3) rfl (by kernel_rfl) rfl ?_; refine o_stores (vs := [(.slice _ _ _), (.slice _ _ _), (.slice _ _ _)]) 4 rfl Try.sizeOf47 rfl rfl rfl (by simp [Value.oneCell']) (by simp) (o_nil ?_); refine d_nil (n := 1) (m := 3) (by kernel_rfl) rfl ?_; exact ⟨⟨b4, gB, ge, gE⟩, hgo, ⟨rfl, rfl, rfl, rfl, trivial⟩, (sub_picks [0, 3, 0, 0, 0] rfl)⟩
  ·refine o_alloc rfl Try.zeroValue47 rfl (fun b5 => ?_); refine o_nil ?_; refine d_eff (k := 4) (n := 0) (m := 3) rfl (by kernel_rfl) rfl ?_; refine o_fn 0 (d := 22) rfl Try.call93 (CloneI_c w.gA w.gn w.gc w.gs hwG.here.down hwGl (by omega)) rfl ?_; rintro _ _ ⟨gB, ge, gE, rfl, hgo, rfl⟩; refine o_nil ?_; refine d_val (i := 5) rfl (by kernel_rfl) (by kernel_rfl) (by kernel_rfl) rfl rfl rfl (y_build (vs := [(0, .slice _ _ _), (1, .slice _ _ _)]) rfl (Changed_k1 _ _ _ _ _ _)) ?_; refine d_eff (k := 7) (n := 1) (m := 3) rfl (by kernel_rfl) rfl ?_; refine o_stores (vs := [(.slice _ _ _), (.slice _ _ _), (.slice _ _ _)]) 4 rfl Try.sizeOf47 rfl rfl rfl (by simp [Value.oneCell']) (by simp) (o_nil ?_); refine d_nil (n := 1) (m := 3) (by kernel_rfl) rfl ?_; exact ⟨⟨b5, gB, ge, gE⟩, hgo, ⟨rfl, rfl, rfl, rfl, trivial⟩, (sub_picks [0, 3, 0, 0, 0] rfl)⟩
 intro u _f hgo; refine s_norm _ (by simp only [pull, picks, setG, List.cons_append, List.nil_append, List.append_nil, List.drop_succ_cons, List.drop_zero]; rfl) ?_; refine s_seq ?_; refine s_seq (s_region ?_); refine o_val rfl rfl rfl (y_field0 Try.runUnderlying47 rfl Try.sizeOf45 rfl rfl) ?_; refine o_val rfl rfl rfl (y_load Try.isAgg45 rfl (cel_own 2 rfl rfl)) ?_; refine o_val rfl rfl rfl (y_len Try.runUnderlying45 rfl) ?_; refine o_val rfl rfl rfl (y_move (v := (.int _ _)) rfl) (o_nil ?_); refine s_block ?_; refine s_group ?_; refine s_group ?_; refine s_loopK (γ := LX7) [(2, (.pointer _)), (4, (.pointer _)), (5, (.pointer _)), (6, (.pointer _)), (25, (.slice _ _ _)), (26, (.int _ _))] [_, _] (fun g => [(27, .int .i64 g.k)]) (fun g => [g.S, g.gE, [(u.b, .cells [.slice w.kA w.kn w.kc, .slice u.gB w.gn u.ge, .slice g.iA g.its.length g.iC].toArray 47 (0, 0))], g.iE, g.P]) (fun g => g.k ≤ w.iN ∧ OS u.gB w.gn u.ge 3 1 ((g.gs).map (.int .i64)) g.gE ∧ OS g.iA g.its.length g.iC 136 3 ((g.its).flatMap encIt) g.iE ∧ (∀ x ∈ g.its, IOK (inG g.P) x) ∧ chgP w b g.k g.gs g.its ∧ Strm V b3 g.S) (fun g => w.iN - g.k) (LX7.mk 0 w.gs u.gE [] none 0 [] [] (stgrp b3 A n c)) ⟨rfl, rfl, rfl, rfl, rfl, rfl, rfl, trivial⟩ (sub_picks [4, 0, 0, 2, 2, 0, 0] rfl) ?_ ?_
 ·exact ⟨Nat.zero_le _, hgo, OS.nil _ _, fun x hx => absurd hx List.not_mem_nil, chg_start hw0.2.2.1 hgb, Strm.new h hn hc⟩
 intro g _f hI; refine s_norm _ (by simp only [pull, picks, setG, List.cons_append, List.nil_append, List.append_nil, List.drop_succ_cons, List.drop_zero]; rfl) ?_; obtain ⟨hgk, hgo, hio, hii, hch, hst⟩ := hI; have hgl := hch.1; refine s_seq (s_region ?_); refine o_val rfl rfl rfl (y_lss rfl rfl) (o_nil ?_); refine s_seq ?_; refine s_if rfl (fun h6 => ?_) (fun h7 => ?_)
 ·refine s_skip ?_; refine s_seq ?_; refine s_block ?_; refine s_seq (s_region ?_); refine o_val rfl rfl rfl (y_indexAddr Try.runUnderlying45 Try.sizeOf136 (some_at (sz := 2) encIt_len (i := 0) hwI (by omega)) rfl rfl (by omega)) ?_; refine o_val rfl rfl rfl (y_loads (cs := [_, _, _]) Try.isAgg136 Try.sizeOf136 rfl (by unfold idx; rw [Option.isSome_map]; exact some_at (sz := 2) encIt_len (i := 0) hwI (by omega)) rfl (cels_at (sz := 3) encIt_len hwI.here (by omega))) ?_; have hii0 := hwII _ (getD_mem' (show g.k < w.its.length by omega) : (w.its.getD ((g.k : Nat) : Int).toNat default) ∈ w.its); have hgi : goodI w.ks w.gs (lastI w.its g.k) (w.its.getD ((g.k : Nat) : Int).toNat default) := hw0.2.2.2 g.k (by omega); have hheld : heldP w.ks (w.its.getD ((g.k : Nat) : Int).toNat default).cs := hgi.2.2.2.2; have hxl := hii0.1; have hxb := hii0.2.2.1; refine o_alloc rfl Try.zeroValue136 rfl (fun b8 => ?_); refine o_stores (vs := [(.int _ _), (.int _ _), (.slice _ _ _)]) 7 rfl Try.sizeOf136 rfl rfl rfl (by simp [Value.oneCell']) (by simp) (o_nil ?_); refine s_seq (s_region ?_); refine o_val rfl rfl rfl (y_field0 Try.runUnderlying136 rfl Try.sizeOf117 rfl rfl) ?_; refine o_val rfl rfl rfl (y_loads (cs := [_, _]) Try.isAgg117 Try.sizeOf117 rfl rfl rfl (cels_own 7 rfl rfl)) ?_; refine o_val rfl rfl rfl (y_build (vs := [(0, .agg #[.int _ _, .int _ _])]) rfl (Changed_k2 _ _)) ?_; refine o_alloc rfl Try.zeroValue136 rfl (fun b9 => ?_); refine o_stores (vs := [(.int _ _), (.int _ _), (.slice _ _ _)]) 8 rfl Try.sizeOf136 rfl rfl rfl (by simp [Value.oneCell']) (by simp) (o_nil ?_); refine s_norm [_, _, [(_, .cells [(.slice _ _ _), (.slice _ _ _), (.slice _ _ _)].toArray 47 (0, 0))], _, _, [(_, .cells [(.slice _ _ _), (.slice _ _ _), (.slice _ _ _)].toArray 47 (0, 0))], [(_, .cells [(.slice _ _ _), (.slice _ _ _), (.slice _ _ _)].toArray 47 (0, 0))], [(_, .cells [(.int _ _), (.int _ _), (.slice _ _ _)].toArray 136 (0, 0))], [(_, .cells [(.int _ _), (.int _ _), (.slice _ _ _)].toArray 136 (0, 0))]] rfl ?_; refine s_seq ?_; refine s_seq (s_region ?_); refine o_val rfl rfl rfl (y_field0 Try.runUnderlying136 rfl Try.sizeOf33 rfl rfl) ?_; refine o_val rfl rfl rfl (y_load Try.isAgg33 rfl (cel_own 7 rfl rfl)) ?_; refine o_val rfl rfl rfl (y_len Try.runUnderlying33 rfl) ?_; refine o_val rfl rfl rfl (y_move (v := (.int _ _)) rfl) (o_nil ?_); refine s_block ?_; refine s_group ?_; refine s_group ?_; refine s_loopK (γ := LY7) [(2, (.pointer _)), (4, (.pointer _)), (5, (.pointer _)), (6, (.pointer _)), (9, (.pointer _)), (25, (.slice _ _ _)), (26, (.int _ _)), (27, (.int _ _)), (35, (.slice _ _ _)), (36, (.int _ _))] [_, _, _, _, _, _] (fun v => [(37, .int .i64 v.j)]) (fun v => [v.S, [(b9, .cells [.int .i64 (w.its.getD ((g.k : Nat) : Int).toNat default).e, .int .i64 (w.its.getD ((g.k : Nat) : Int).toNat default).g, .slice v.cA v.cs.length v.cC].toArray 136 (0, 0))], v.cE, v.P]) (fun v => v.j ≤ (w.its.getD ((g.k : Nat) : Int).toNat default).n ∧ OS v.cA v.cs.length v.cC 155 2 ((v.cs).flatMap encC) v.cE ∧ (∀ y ∈ v.cs, COK (inG v.P) y) ∧ heldP w.ks v.cs ∧ (∀ y ∈ v.cs, y.kind ≤ lastC (w.its.getD ((g.k : Nat) : Int).toNat default).cs v.j) ∧ v.cs.length ≤ v.j ∧ Strm V b3 v.S) (fun v => (w.its.getD ((g.k : Nat) : Int).toNat default).n - v.j) (LY7.mk 0 [] none 0 [] [] g.S) ⟨rfl, rfl, rfl, rfl, rfl, rfl, rfl, rfl, rfl, rfl, rfl, trivial⟩ (sub_picks [0, 7, 7, 7, 0, 0, 0, 0, 0, 0] rfl) ?_ ?_
  ·exact ⟨Nat.zero_le _, OS.nil _ _, fun y hy => absurd hy List.not_mem_nil, fun j hj => absurd hj (Nat.not_lt_zero j), fun y hy => absurd hy List.not_mem_nil, Nat.zero_le _, hst⟩
  intro v _f hJ; refine s_norm _ (by simp only [pull, picks, setG, List.cons_append, List.nil_append, List.append_nil, List.drop_succ_cons, List.drop_zero]; rfl) ?_; obtain ⟨hvj, hco, hcx, hch2, hck2, hvl, hst⟩ := hJ; refine s_seq (s_region ?_); refine o_val rfl rfl rfl (y_lss rfl rfl) (o_nil ?_); refine s_seq ?_; refine s_if rfl (fun h10 => ?_) (fun h11 => ?_)
  ·refine s_skip ?_; refine s_seq ?_; refine s_block ?_; refine s_seq (s_region ?_); refine o_val rfl rfl rfl (y_indexAddr Try.runUnderlying33 Try.sizeOf155 (some_at (sz := 1) encC_len (i := 0) (hii0.2.2.2.1.ms hm0) (by omega)) rfl rfl (by omega)) ?_; refine o_val rfl rfl rfl (y_loads (cs := [_, _]) Try.isAgg155 Try.sizeOf155 rfl (by unfold idx; rw [Option.isSome_map]; exact some_at (sz := 1) encC_len (i := 0) (hii0.2.2.2.1.ms hm0) (by omega)) rfl (cels_at (sz := 2) encC_len (hii0.2.2.2.1.ms hm0).here (by omega))) ?_; have hcc := hii0.2.2.2.2 _ (getD_mem' (show v.j < (w.its.getD ((g.k : Nat) : Int).toNat default).cs.length by omega) : ((w.its.getD ((g.k : Nat) : Int).toNat default).cs.getD ((v.j : Nat) : Int).toNat default) ∈ (w.its.getD ((g.k : Nat) : Int).toNat default).cs); have hcd : goodC w.ks (lastC (w.its.getD ((g.k : Nat) : Int).toNat default).cs v.j) ((w.its.getD ((g.k : Nat) : Int).toNat default).cs.getD ((v.j : Nat) : Int).toNat default) := hheld v.j (by omega); have hcg := lastC_ge' hheld (show v.j ≤ (w.its.getD ((g.k : Nat) : Int).toNat default).cs.length by omega); have hkl : lastC (w.its.getD ((g.k : Nat) : Int).toNat default).cs (v.j + 1) = ((w.its.getD ((g.k : Nat) : Int).toNat default).cs.getD ((v.j : Nat) : Int).toNat default).kind := rfl; have hkp := hcd.1; have hkn := hcd.2.1; have hkk := hwKK _ (getD_mem' (show ((w.its.getD ((g.k : Nat) : Int).toNat default).cs.getD ((v.j : Nat) : Int).toNat default).kind.toNat < w.ks.length by omega) : (w.ks.getD ((w.its.getD ((g.k : Nat) : Int).toNat default).cs.getD ((v.j : Nat) : Int).toNat default).kind.toNat default) ∈ w.ks); have hhd := holds_fits hcd.2.2; have hone := hhd.1; have hfl := hkk.1; have hcl := hcc.1; have hcb := hcc.2.2.1; have hhl := hhd.2.1; have hf8 := (oneErr_zero hone).2.1; refine o_alloc rfl Try.zeroValue155 rfl (fun b12 => ?_); refine o_stores (vs := [(.int _ _), (.slice _ _ _)]) 10 rfl Try.sizeOf155 rfl rfl rfl (by simp [Value.oneCell']) (by simp) (o_nil ?_); refine s_seq (s_region ?_); refine o_val rfl rfl rfl (y_field0 Try.runUnderlying155 rfl Try.sizeOf22 rfl rfl) ?_; refine o_val rfl rfl rfl (y_load Try.isAgg22 rfl (cel_own 10 rfl rfl)) ?_; refine o_fn 0 (d := 43) rfl Try.call93 (CloneI_c ((w.its.getD ((g.k : Nat) : Int).toNat default).cs.getD ((v.j : Nat) : Int).toNat default).A ((w.its.getD ((g.k : Nat) : Int).toNat default).cs.getD ((v.j : Nat) : Int).toNat default).n ((w.its.getD ((g.k : Nat) : Int).toNat default).cs.getD ((v.j : Nat) : Int).toNat default).c ((w.its.getD ((g.k : Nat) : Int).toNat default).cs.getD ((v.j : Nat) : Int).toNat default).vs ((hcc.2.2.2.ms hm0).here).down hcc.1 (by have := hcc.2.2.1; omega)) rfl ?_; rintro _ _ ⟨vB, ve, vG, rfl, hvo, rfl⟩; refine o_val rfl rfl rfl (y_assign (v := (.slice _ _ _)) rfl) (o_nil ?_); refine s_seq ?_; refine s_seq (s_region ?_); refine o_val rfl rfl rfl (y_move (v := (.slice _ _ _)) rfl) ?_; refine o_val rfl rfl rfl (y_len Try.runUnderlying22 rfl) ?_; refine o_val rfl rfl rfl (y_move (v := (.int _ _)) rfl) (o_nil ?_); refine s_block ?_; refine s_loopK (γ := LZ7) [(2, (.pointer _)), (4, (.pointer _)), (5, (.pointer _)), (6, (.pointer _)), (9, (.pointer _)), (11, (.pointer _)), (12, (.slice _ _ _)), (25, (.slice _ _ _)), (26, (.int _ _)), (27, (.int _ _)), (35, (.slice _ _ _)), (36, (.int _ _)), (37, (.int _ _)), (45, (.int _ _))] [_, _, _, _, _, _, _, _, _, _] (fun z => [(46, .int .i64 z.q)]) (fun z => [z.S, z.E]) (fun z => z.q ≤ ((w.its.getD ((g.k : Nat) : Int).toNat default).cs.getD ((v.j : Nat) : Int).toNat default).n ∧ OS vB ((w.its.getD ((g.k : Nat) : Int).toNat default).cs.getD ((v.j : Nat) : Int).toNat default).n ve 3 1 ((z.vs).map (.int .i64)) z.E ∧ (∀ j, j < ((w.its.getD ((g.k : Nat) : Int).toNat default).cs.getD ((v.j : Nat) : Int).toNat default).n → fitsV ((w.ks.getD ((w.its.getD ((g.k : Nat) : Int).toNat default).cs.getD ((v.j : Nat) : Int).toNat default).kind.toNat default).fs.getD j default) (z.vs.getD j 0)) ∧ Strm V b3 z.S) (fun z => ((w.its.getD ((g.k : Nat) : Int).toNat default).cs.getD ((v.j : Nat) : Int).toNat default).n - z.q) (LZ7.mk 0 ((w.its.getD ((g.k : Nat) : Int).toNat default).cs.getD ((v.j : Nat) : Int).toNat default).vs vG v.S) ⟨rfl, rfl, rfl, rfl, rfl, rfl, rfl, rfl, rfl, rfl, rfl, rfl, rfl, rfl, rfl, trivial⟩ (sub_picks [1, 0, 0, 0, 0, 0, 0, 0, 0, 0, 0, 0] rfl) ?_ ?_
   ·exact ⟨Nat.zero_le _, hvo, fun j hj => hhd.2.2 j (by omega), hst⟩
   intro z _f hZ; refine s_norm _ (by simp only [pull, picks, setG, List.cons_append, List.nil_append, List.append_nil, List.drop_succ_cons, List.drop_zero]; rfl) ?_; obtain ⟨hzq, hvo, hfit, hst⟩ := hZ; have hzl : z.vs.length = ((w.its.getD ((g.k : Nat) : Int).toNat default).cs.getD ((v.j : Nat) : Int).toNat default).n := by simpa using hvo.len
   refine s_seq (s_region ?_); refine o_val rfl rfl rfl (y_lss rfl rfl) (o_nil ?_); refine s_seq ?_; refine s_if rfl (fun h13 => ?_) (fun h14 => ?_)
   ·refine s_skip ?_; refine s_seq ?_; refine s_block ?_; refine s_seq (s_region ?_); refine o_val rfl rfl rfl (y_move (v := (.int _ _)) rfl) ?_; refine o_val rfl rfl rfl (y_assign (v := (.int _ _)) rfl) (o_nil ?_); refine s_seq (s_region ?_); refine o_val rfl rfl rfl (y_field0 Try.runUnderlying47 rfl Try.sizeOf23 rfl rfl) ?_; refine o_val rfl rfl rfl (y_load Try.isAgg23 rfl (cel_own 9 rfl rfl)) ?_; refine o_val rfl rfl rfl (y_field0 Try.runUnderlying155 rfl Try.sizeOf3 rfl rfl) ?_; refine o_val rfl rfl rfl (y_load Try.isAgg3 rfl (cel_own 11 rfl rfl)) ?_; refine o_val rfl rfl rfl (y_indexAddr Try.runUnderlying23 Try.sizeOf58 (some_at (sz := 1) encK_len (i := 0) hwK (by omega)) rfl rfl (by omega)) ?_; refine o_val rfl rfl rfl (y_fieldX (F := 1) Try.runUnderlying58 rfl Try.sizeOf56 rfl (some_at (sz := 1) encK_len (i := 0) hwK (by omega)) rfl) ?_; refine o_val rfl rfl rfl (y_load Try.isAgg56 rfl ((cels_at (sz := 2) encK_len hwK.here (by omega)).cel' (i := 1) rfl)) ?_; refine o_val rfl rfl rfl (y_move (v := (.int _ _)) rfl) ?_; refine o_val rfl rfl rfl (y_indexAddr Try.runUnderlying56 Try.sizeOf61 (some_at (sz := 2) encF_len (i := 0) (hkk.2.2.2.ms hm0) (by omega)) rfl rfl (by omega)) ?_; refine o_val rfl rfl rfl (y_loads (cs := [_, _, _]) Try.isAgg61 Try.sizeOf61 rfl (by unfold idx; rw [Option.isSome_map]; exact some_at (sz := 2) encF_len (i := 0) (hkk.2.2.2.ms hm0) (by omega)) rfl (cels_at (sz := 3) encF_len (hkk.2.2.2.ms hm0).here (by omega))) ?_; refine o_alloc rfl Try.zeroValue61 rfl (fun b15 => ?_); refine o_stores (vs := [(.string _), (.int _ _), (.int _ _)]) 12 rfl Try.sizeOf61 rfl rfl rfl (by simp [Value.oneCell']) (by simp) (o_nil ?_); refine s_norm [_, _, [(_, .cells [(.int _ _), (.int _ _), (.slice _ _ _)].toArray 136 (0, 0))], _, _, _, [(_, .cells [(.slice _ _ _), (.slice _ _ _), (.slice _ _ _)].toArray 47 (0, 0))], _, _, [(_, .cells [(.slice _ _ _), (.slice _ _ _), (.slice _ _ _)].toArray 47 (0, 0))], [(_, .cells [(.slice _ _ _), (.slice _ _ _), (.slice _ _ _)].toArray 47 (0, 0))], [(_, .cells [(.int _ _), (.slice _ _ _)].toArray 155 (0, 0))], [(_, .cells [(.string _), (.int _ _), (.int _ _)].toArray 61 (0, 0))]] rfl ?_; refine s_seq (s_region ?_); refine o_val rfl rfl rfl (y_move (v := (.pointer _)) rfl) ?_; refine o_fn 1 (d := 60) rfl Try.call87 (NextS_c hst (hm0 := MSub.ext) 4 (by omega)) rfl ?_; rintro _ _ ⟨k4, sG', rfl, hk40, hk41, hst, rfl⟩; refine o_val rfl rfl rfl (y_eql rfl rfl) (o_nil ?_); refine s_forget [(2, (.pointer _)), (4, (.pointer _)), (5, (.pointer _)), (6, (.pointer _)), (9, (.pointer _)), (11, (.pointer _)), (12, (.slice _ _ _)), (13, (.int _ _)), (14, (.pointer _)), (25, (.slice _ _ _)), (26, (.int _ _)), (27, (.int _ _)), (35, (.slice _ _ _)), (36, (.int _ _)), (37, (.int _ _)), (45, (.int _ _)), (46, (.int _ _)), (61, (.bool _))] ⟨rfl, rfl, rfl, rfl, rfl, rfl, rfl, rfl, rfl, rfl, rfl, rfl, rfl, rfl, rfl, rfl, rfl, rfl, trivial⟩ (fun _f => ?_); refine s_if rfl (fun h16 => ?_) (fun h17 => ?_)
    ·refine s_pull 1 ?_; refine s_pull 1 ?_; refine s_drawn 2 (by kernel_rfl) ?_; have hfok : fOK ((w.ks.getD ((w.its.getD ((g.k : Nat) : Int).toNat default).cs.getD ((v.j : Nat) : Int).toNat default).kind.toNat default).fs.getD ((z.q : Nat) : Int).toNat default) := one_field hone (by omega); have hp := pow_bd ⟨hfok.2.1, hfok.2.2.1⟩; have hlo := hfok.2.2.2; refine d_val (i := 0) rfl (by kernel_rfl) (by kernel_rfl) (by kernel_rfl) rfl rfl rfl (y_move (v := (.slice _ _ _)) rfl) ?_; refine d_val (i := 1) rfl (by kernel_rfl) (by kernel_rfl) (by kernel_rfl) rfl rfl rfl (y_move (v := (.int _ _)) rfl) ?_; refine d_val (i := 2) rfl (by kernel_rfl) (by kernel_rfl) (by kernel_rfl) rfl rfl rfl (y_field0 Try.runUnderlying61 rfl Try.sizeOf3 rfl rfl) ?_; refine d_val (i := 3) rfl (by kernel_rfl) (by kernel_rfl) (by kernel_rfl) rfl rfl rfl (y_load Try.isAgg3 rfl (cel_own 10 rfl rfl)) ?_; refine d_val (i := 4) rfl (by kernel_rfl) (by kernel_rfl) (by kernel_rfl) rfl rfl rfl (y_move (v := (.pointer _)) rfl) ?_; refine d_val (i := 5) rfl (by kernel_rfl) (by kernel_rfl) (by kernel_rfl) rfl rfl rfl (y_field0 Try.runUnderlying61 rfl Try.sizeOf3 rfl rfl) ?_; refine d_val (i := 6) rfl (by kernel_rfl) (by kernel_rfl) (by kernel_rfl) rfl rfl rfl (y_load Try.isAgg3 rfl (cel_own 10 rfl rfl)) ?_; refine d_val (i := 7) rfl (by kernel_rfl) (by kernel_rfl) (by kernel_rfl) rfl rfl rfl ((y_shl rfl rfl (by have := hfok.2.1; omega)).int (pow_bits ⟨hfok.2.1, hfok.2.2.1⟩)) ?_; refine d_eff (k := 8) (n := 2) (m := 11) rfl (by kernel_rfl) rfl ?_; refine o_fn 1 (d := 70) rfl Try.call87 (NextS_c hst (hm0 := MSub.ext) _ (by omega)) rfl ?_; rintro _ _ ⟨kv, sG', rfl, hkv0, hkv1, hst, rfl⟩; refine o_nil ?_; refine d_val (i := 9) rfl (by kernel_rfl) (by kernel_rfl) (by kernel_rfl) rfl rfl rfl (y_add rfl rfl (by have := hkv1 (by omega); simp only [inK]; omega)) ?_; refine d_val (i := 10) rfl (by kernel_rfl) (by kernel_rfl) (by kernel_rfl) rfl rfl rfl (y_index1 Try.runUnderlying22 Try.sizeOf3 (hvo.some_of (by omega)) rfl rfl (by omega)) ?_; refine d_eff (k := 11) (n := 2) (m := 11) rfl (by kernel_rfl) rfl ?_; refine o_store_os (vs := [(.int _ _)]) 1 rfl hvo Try.sizeOf3 rfl rfl rfl (by simp [Value.oneCell']) (by simp) (by simp; omega) (fun E18 ho19 => ?_); have ho20 := os_lay_int ho19 (by simp; omega)
     clear ho19
     refine o_nil ?_; refine d_nil (n := 2) (m := 11) (by kernel_rfl) rfl ?_; refine s_region ?_; refine o_val rfl rfl rfl (y_add rfl rfl (by simp only [inK]; omega)) ?_; refine o_val rfl rfl rfl (y_move (v := (.int _ _)) rfl) (o_nil ?_); exact ⟨LZ7.mk (z.q + 1) (z.vs.set ((z.q : Nat) : Int).toNat (((w.ks.getD ((w.its.getD ((g.k : Nat) : Int).toNat default).cs.getD ((v.j : Nat) : Int).toNat default).kind.toNat default).fs.getD ((z.q : Nat) : Int).toNat default).low + kv)) E18 sG', (by first | omega | (dsimp only; omega)), ⟨by dsimp only; omega, ho20, fits_set hfit hzl (by omega) (fits_low hfok hkv0 (hkv1 (by omega))), hst⟩, ⟨(congrArg (Value.int .i64) (by (try dsimp only); omega)), rfl, rfl, rfl, rfl, rfl, rfl, rfl, rfl, rfl, rfl, rfl, rfl, rfl, rfl, trivial⟩, (sub_picks [0, 0, 0, 0, 0, 0, 0, 0, 0, 0, 0, 0] rfl)⟩
    ·refine s_skip ?_; refine s_region ?_; refine o_val rfl rfl rfl (y_add rfl rfl (by simp only [inK]; omega)) ?_; refine o_val rfl rfl rfl (y_move (v := (.int _ _)) rfl) (o_nil ?_); exact ⟨LZ7.mk (z.q + 1) z.vs z.E sG', (by first | omega | (dsimp only; omega)), ⟨by dsimp only; omega, hvo, hfit, hst⟩, ⟨(congrArg (Value.int .i64) (by (try dsimp only); omega)), rfl, rfl, rfl, rfl, rfl, rfl, rfl, rfl, rfl, rfl, rfl, rfl, rfl, rfl, trivial⟩, (sub_picks [0, 0, 0, 0, 0, 0, 0, 0, 0, 0, 0, 0] rfl)⟩
   ·refine s_exit ?_; refine s_seq (s_region ?_); refine o_val rfl rfl rfl (y_move (v := (.pointer _)) rfl) ?_; refine o_fn 1 (d := 75) rfl Try.call87 (NextS_c hst (hm0 := MSub.ext) 8 (by omega)) rfl ?_; rintro _ _ ⟨k8, sG', rfl, hk80, hk81, hst, rfl⟩; refine o_val rfl rfl rfl (y_gtr rfl rfl) (o_nil ?_); refine s_if rfl (fun h21 => ?_) (fun h22 => ?_)
    ·refine s_region ?_; refine o_val rfl rfl rfl (y_field0 Try.runUnderlying136 rfl Try.sizeOf33 rfl rfl) ?_; refine o_val rfl rfl rfl (y_load Try.isAgg33 rfl (cel_own 2 rfl rfl)) ?_; refine o_val rfl rfl rfl (y_field0 Try.runUnderlying155 rfl Try.sizeOf3 rfl rfl) ?_; refine o_val rfl rfl rfl (y_load Try.isAgg3 rfl (cel_own 11 rfl rfl)) ?_; refine o_val rfl rfl rfl (y_move (v := (.slice _ _ _)) rfl) ?_; refine o_val rfl rfl rfl (y_build (vs := [(0, .int _ _), (1, .slice _ _ _)]) rfl (Changed_k3 _ _ _ _)) ?_; refine o_lit (vs := [(0, .agg #[.int _ _, .slice _ _ _])]) rfl rfl (Changed_k4 _ _ _ _) (fun b23 => ?_); refine o_append (sz := 2) (bytes := 32) (news := [(.int _ _), (.slice _ _ _)]) 3 rfl Try.underlying33 Try.type155 rfl rfl rfl rfl rfl hco rfl rfl (Src.slice Try.underlying33 (cels_own 12 rfl rfl) rfl (by simp [Value.oneCell']) (by simp)) (by omega) (fun A24 c25 E26 ho27 hn28 => ?_); have ho29 : OS A24 (v.cs.length + 1) c25 155 2 ((v.cs ++ [newC ((w.its.getD ((g.k : Nat) : Int).toNat default).cs.getD ((v.j : Nat) : Int).toNat default).kind vB ((w.its.getD ((g.k : Nat) : Int).toNat default).cs.getD ((v.j : Nat) : Int).toNat default).n ve z.vs]).flatMap encC) E26 := os_snoc ho27 rfl
     clear ho27
     refine o_val rfl rfl rfl (y_field0 Try.runUnderlying136 rfl Try.sizeOf33 rfl rfl) ?_; refine o_store (v := (.slice _ _ _)) 2 rfl Try.sizeOf33 rfl rfl rfl rfl (o_nil ?_); refine s_norm [_, _, [(_, .cells [(.int _ _), (.int _ _), (.slice _ _ _)].toArray 136 (0, 0))], _, _, _, [(_, .cells [(.slice _ _ _), (.slice _ _ _), (.slice _ _ _)].toArray 47 (0, 0))], _, _, [(_, .cells [(.slice _ _ _), (.slice _ _ _), (.slice _ _ _)].toArray 47 (0, 0))], [(_, .cells [(.slice _ _ _), (.slice _ _ _), (.slice _ _ _)].toArray 47 (0, 0))], [(_, .cells [(.int _ _), (.slice _ _ _)].toArray 155 (0, 0))], [(_, .cells [(.int _ _), (.slice _ _ _)].toArray 155 (0, 0))]] rfl ?_; refine s_region ?_; refine o_pull 4 ?_; refine o_pull 2 ?_; refine o_fuse ?_; refine o_val rfl rfl rfl (y_add rfl rfl (by simp only [inK]; omega)) ?_; refine o_val rfl rfl rfl (y_move (v := (.int _ _)) rfl) (o_nil ?_); exact ⟨LY7.mk (v.j + 1) (v.cs ++ [(newC ((w.its.getD ((g.k : Nat) : Int).toNat default).cs.getD ((v.j : Nat) : Int).toNat default).kind vB ((w.its.getD ((g.k : Nat) : Int).toNat default).cs.getD ((v.j : Nat) : Int).toNat default).n ve z.vs)]) A24 c25 E26 (z.E ++ v.P) sG', (by first | omega | (dsimp only; omega)), ⟨by dsimp only; omega, by dsimp only; rw [List.length_append]; exact ho29, all_snoc (fun y hy => (hcx y hy).sub inG_right) (cok_new hvo (by omega)), held_snoc hch2 ⟨by have := lastC_le hck2 (lastC_ge' hheld (by omega)); have := hcd.1; dsimp only [newC]; omega, by have := hcd.2.1; dsimp only [newC]; omega, by dsimp only [newC]; exact holds_of hone (by omega) (fun j hj => hfit j (by omega))⟩, all_snoc (fun y hy => by have := hck2 y hy; dsimp only; rw [hkl]; omega) (by simp only [lastC]; exact Int.le_refl _), by simp only [List.length_append, List.length_singleton]; omega, hst⟩, ⟨(congrArg (Value.int .i64) (by (try dsimp only); omega)), rfl, rfl, rfl, rfl, rfl, rfl, rfl, rfl, rfl, rfl, trivial⟩, (by dsimp only; rw [List.length_append]; exact sub_picks [1, 1, 1, 0, 0, 0, 0, 0, 0, 0] rfl)⟩
    ·refine s_skip ?_; refine s_region ?_; refine o_pull 4 ?_; refine o_pull 2 ?_; refine o_fuse ?_; refine o_val rfl rfl rfl (y_add rfl rfl (by simp only [inK]; omega)) ?_; refine o_val rfl rfl rfl (y_move (v := (.int _ _)) rfl) (o_nil ?_); exact ⟨LY7.mk (v.j + 1) v.cs v.cA v.cC v.cE (z.E ++ v.P) sG', (by first | omega | (dsimp only; omega)), ⟨by dsimp only; omega, hco, fun y hy => (hcx y hy).sub inG_right, hch2, fun y hy => by have := hck2 y hy; dsimp only; rw [hkl]; omega, by dsimp only; omega, hst⟩, ⟨(congrArg (Value.int .i64) (by (try dsimp only); omega)), rfl, rfl, rfl, rfl, rfl, rfl, rfl, rfl, rfl, rfl, trivial⟩, (sub_picks [1, 1, 1, 0, 0, 0, 0, 0, 0, 0] rfl)⟩
  ·refine s_exit ?_; refine s_seq ?_; refine s_seq (s_region ?_); refine o_val rfl rfl rfl (y_move (v := (.pointer _)) rfl) ?_; refine o_fn 1 (d := 88) rfl Try.call87 (NextS_c hst (hm0 := MSub.ext) 8 (by omega)) rfl ?_; rintro _ _ ⟨k9, sG', rfl, hk90, hk91, hst, rfl⟩; refine o_val rfl rfl rfl (y_eql rfl rfl) (o_nil ?_); refine s_if rfl (fun h30 => ?_) (fun h31 => ?_)
   ·refine s_seq (s_region ?_); have hg1 := hgi.1; have hg2 := hgi.2.1; have hg3 := lastI_ge' hw0.2.2.2 (show g.k ≤ w.its.length by omega); refine o_val rfl rfl rfl (y_field0 Try.runUnderlying47 rfl Try.sizeOf22 rfl rfl) ?_; refine o_val rfl rfl rfl (y_load Try.isAgg22 rfl (cel_own 5 rfl rfl)) ?_; refine o_val rfl rfl rfl (y_field0 Try.runUnderlying136 rfl Try.sizeOf117 rfl rfl) ?_; refine o_val rfl rfl rfl (y_field0 Try.runUnderlying117 rfl Try.sizeOf3 rfl rfl) ?_; refine o_val rfl rfl rfl (y_load Try.isAgg3 rfl (cel_own 1 rfl rfl)) ?_; refine o_val rfl rfl rfl (y_index1 Try.runUnderlying22 Try.sizeOf3 (hgo.some_of (by omega)) rfl rfl (by omega)) ?_; refine o_val rfl rfl rfl (y_load Try.isAgg3 rfl (cel_int (hgo.cels (j := 4) rfl) (by omega))) ?_; refine o_val rfl rfl rfl (y_add rfl rfl (by have := hch.2.2.2.2.1 (w.its.getD ((g.k : Nat) : Int).toNat default).e.toNat (by omega); simp only [inK]; omega)) ?_; refine o_val rfl rfl rfl (y_index1 Try.runUnderlying22 Try.sizeOf3 (hgo.some_of (by omega)) rfl rfl (by omega)) ?_; refine o_store_os (vs := [(.int _ _)]) 4 rfl hgo Try.sizeOf3 rfl rfl rfl (by simp [Value.oneCell']) (by simp) (by first | omega | (simp only [List.length_map, List.length_singleton]; omega)) (fun E32 ho33 => ?_); have ho34 := os_lay_int ho33 (by first | omega | (simp only [List.length_map, List.length_singleton]; omega))
    clear ho33
    refine o_nil ?_; refine s_forget [(2, (.pointer _)), (4, (.pointer _)), (5, (.pointer _)), (6, (.pointer _)), (9, (.pointer _)), (25, (.slice _ _ _)), (26, (.int _ _)), (27, (.int _ _))] ⟨rfl, rfl, rfl, rfl, rfl, rfl, rfl, rfl, trivial⟩ (fun _f => ?_); refine s_exit ?_; refine s_region ?_; refine o_pull 7 ?_; refine o_pull 4 ?_; refine o_fuse ?_; refine o_pull 3 ?_; refine o_fuse ?_; refine o_val rfl rfl rfl (y_add rfl rfl (by simp only [inK]; omega)) ?_; refine o_val rfl rfl rfl (y_move (v := (.int _ _)) rfl) (o_nil ?_); exact ⟨LX7.mk (g.k + 1) (g.gs.set (w.its.getD ((g.k : Nat) : Int).toNat default).e.toNat (g.gs.getD (w.its.getD ((g.k : Nat) : Int).toNat default).e.toNat 0 + 1)) E32 g.its g.iA g.iC g.iE (v.cE ++ (v.P ++ g.P)) sG', (by first | omega | (dsimp only; omega)), ⟨by dsimp only; omega, ho34, hio, fun x hx => ((hii x hx).sub inG_right).sub inG_right, chg_gone hch hw0.2.2.2 (by omega) hgb, hst⟩, ⟨(congrArg (Value.int .i64) (by (try dsimp only); omega)), rfl, rfl, rfl, rfl, rfl, rfl, trivial⟩, (sub_picks [1, 2, 2, 2, 0, 1, 1] rfl)⟩
   ·refine s_skip ?_; refine s_region ?_; refine o_val rfl rfl rfl (y_field0 Try.runUnderlying47 rfl Try.sizeOf45 rfl rfl) ?_; refine o_val rfl rfl rfl (y_load Try.isAgg45 rfl (cel_own 5 rfl rfl)) ?_; refine o_val rfl rfl rfl (y_loads (cs := [_, _, _]) Try.isAgg136 Try.sizeOf136 rfl rfl rfl (cels_own 1 rfl rfl)) ?_; refine o_lit (vs := [(0, .agg #[.int _ _, .int _ _, .slice _ _ _])]) rfl rfl (Changed_k5 _ _ _ _ _) (fun b35 => ?_); refine o_append (sz := 3) (bytes := 40) (news := [(.int _ _), (.int _ _), (.slice _ _ _)]) 6 rfl Try.underlying45 Try.type136 rfl rfl rfl rfl rfl hio rfl rfl (Src.slice Try.underlying45 (cels_own 10 rfl rfl) rfl (by simp [Value.oneCell']) (by simp)) (by have := hch.2.1; omega) (fun A36 c37 E38 ho39 hn40 => ?_); have ho41 : OS A36 (g.its.length + 1) c37 136 3 ((g.its ++ [IR.mk (w.its.getD ((g.k : Nat) : Int).toNat default).e (w.its.getD ((g.k : Nat) : Int).toNat default).g v.cA v.cs.length v.cC v.cs]).flatMap encIt) E38 := os_snoc ho39 rfl
    clear ho39
    refine o_val rfl rfl rfl (y_field0 Try.runUnderlying47 rfl Try.sizeOf45 rfl rfl) ?_; refine o_store (v := (.slice _ _ _)) 5 rfl Try.sizeOf45 rfl rfl rfl rfl (o_nil ?_); refine s_norm [_, [(_, .cells [(.int _ _), (.int _ _), (.slice _ _ _)].toArray 136 (0, 0))], _, _, _, [(_, .cells [(.slice _ _ _), (.slice _ _ _), (.slice _ _ _)].toArray 47 (0, 0))], _, _, [(_, .cells [(.slice _ _ _), (.slice _ _ _), (.slice _ _ _)].toArray 47 (0, 0))], [(_, .cells [(.slice _ _ _), (.slice _ _ _), (.slice _ _ _)].toArray 47 (0, 0))], [(_, .cells [(.int _ _), (.int _ _), (.slice _ _ _)].toArray 136 (0, 0))]] rfl ?_; refine s_region ?_; refine o_pull 7 ?_; refine o_pull 4 ?_; refine o_fuse ?_; refine o_pull 3 ?_; refine o_fuse ?_; refine o_val rfl rfl rfl (y_add rfl rfl (by simp only [inK]; omega)) ?_; refine o_val rfl rfl rfl (y_move (v := (.int _ _)) rfl) (o_nil ?_); exact ⟨LX7.mk (g.k + 1) g.gs g.gE (g.its ++ [(IR.mk (w.its.getD ((g.k : Nat) : Int).toNat default).e (w.its.getD ((g.k : Nat) : Int).toNat default).g v.cA v.cs.length v.cC v.cs)]) A36 c37 E38 (v.cE ++ (v.P ++ g.P)) sG', (by first | omega | (dsimp only; omega)), ⟨by dsimp only; omega, hgo, by dsimp only; rw [List.length_append]; exact ho41, all_snoc (fun x hx => ((hii x hx).sub inG_right).sub inG_right) ⟨rfl, hco.2.1, by dsimp only; omega, hco.mem.ms inG_left, fun y hy => ((hcx y hy).sub inG_left).sub inG_right⟩, chg_stay hch hw0.2.2.2 (by omega) rfl rfl hch2, hst⟩, ⟨(congrArg (Value.int .i64) (by (try dsimp only); omega)), rfl, rfl, rfl, rfl, rfl, rfl, trivial⟩, (by dsimp only; rw [List.length_append]; exact sub_picks [1, 2, 2, 2, 0, 1, 1] rfl)⟩
 ·refine s_exit ?_; refine s_seq ?_; refine s_seq (s_region ?_); refine o_val rfl rfl rfl (y_move (v := (.pointer _)) rfl) ?_; refine o_fn 1 (d := 107) rfl Try.call87 (NextS_c hst (hm0 := MSub.ext) 3 (by omega)) rfl ?_; rintro _ _ ⟨k3, sG', rfl, hk30, hk31, hst, rfl⟩; refine o_val rfl rfl rfl (y_eql rfl rfl) (o_nil ?_); refine s_if rfl (fun h42 => ?_) (fun h43 => ?_)
  ·refine s_seq (s_region ?_); refine o_val rfl rfl rfl (y_field0 Try.runUnderlying47 rfl Try.sizeOf45 rfl rfl) ?_; refine o_val rfl rfl rfl (y_load Try.isAgg45 rfl (cel_own 2 rfl rfl)) ?_; refine o_val rfl rfl rfl (y_field0 Try.runUnderlying47 rfl Try.sizeOf22 rfl rfl) ?_; refine o_val rfl rfl rfl (y_load Try.isAgg22 rfl (cel_own 2 rfl rfl)) ?_; refine o_val rfl rfl rfl (y_len Try.runUnderlying22 rfl) ?_; refine o_val rfl rfl rfl (y_build (vs := [(0, .int _ _)]) rfl (Changed_k6 _)) ?_; refine o_val rfl rfl rfl (y_build (vs := [(0, .agg #[.int _ _, .int _ _])]) rfl (Changed_k2 _ _)) ?_; refine o_lit (vs := [(0, .agg #[.int _ _, .int _ _, .slice _ _ _])]) rfl rfl (Changed_k5 _ _ _ _ _) (fun b44 => ?_); refine o_append (sz := 3) (bytes := 40) (news := [(.int _ _), (.int _ _), (.slice _ _ _)]) 3 rfl Try.underlying45 Try.type136 rfl rfl rfl rfl rfl hio rfl rfl (Src.slice Try.underlying45 (cels_own 7 rfl rfl) rfl (by simp [Value.oneCell']) (by simp)) (by have := hch.2.1; omega) (fun A45 c46 E47 ho48 hn49 => ?_); have ho50 : OS A45 (g.its.length + 1) c46 136 3 ((g.its ++ [IR.mk (g.gs.length : Nat) 0 none 0 0 []]).flatMap encIt) E47 := os_snoc ho48 (by rw [hgl, hwGl]; rfl)
   clear ho48
   refine o_val rfl rfl rfl (y_field0 Try.runUnderlying47 rfl Try.sizeOf45 rfl rfl) ?_; refine o_store (v := (.slice _ _ _)) 2 rfl Try.sizeOf45 rfl rfl rfl rfl (o_nil ?_); refine s_norm [_, _, [(_, .cells [(.slice _ _ _), (.slice _ _ _), (.slice _ _ _)].toArray 47 (0, 0))], _, _, [(_, .cells [(.slice _ _ _), (.slice _ _ _), (.slice _ _ _)].toArray 47 (0, 0))], [(_, .cells [(.slice _ _ _), (.slice _ _ _), (.slice _ _ _)].toArray 47 (0, 0))], [(_, .cells [(.int _ _), (.int _ _), (.slice _ _ _)].toArray 136 (0, 0))]] rfl ?_; refine s_forget [(4, (.pointer _)), (6, (.pointer _))] ⟨rfl, rfl, trivial⟩ (fun _f => ?_); refine s_region ?_; refine o_val rfl rfl rfl (y_field0 Try.runUnderlying47 rfl Try.sizeOf22 rfl rfl) ?_; refine o_val rfl rfl rfl (y_load Try.isAgg22 rfl (cel_own 2 rfl rfl)) ?_; refine o_lit (vs := [(0, .int _ _)]) rfl rfl (Changed_k7 _) (fun b51 => ?_); refine o_append (sz := 1) (bytes := 8) (news := [(.int _ _)]) 1 rfl Try.underlying22 Try.type3 rfl rfl rfl rfl rfl hgo rfl rfl (Src.slice Try.underlying22 (cels_own 8 rfl rfl) rfl (by simp [Value.oneCell']) (by simp)) (by omega) (fun A52 c53 E54 ho55 hn56 => ?_); have ho57 : OS A52 (w.gn + 1) c53 3 1 ((g.gs ++ [0]).map (.int .i64)) E54 := (os_eq ho55 (by rw [List.map_append]; rfl))
   clear ho55
   refine o_val rfl rfl rfl (y_field0 Try.runUnderlying47 rfl Try.sizeOf22 rfl rfl) ?_; refine o_store (v := (.slice _ _ _)) 2 rfl Try.sizeOf22 rfl rfl rfl rfl (o_nil ?_); refine s_norm [_, _, [(_, .cells [(.slice _ _ _), (.slice _ _ _), (.slice _ _ _)].toArray 47 (0, 0))], _, _, [(_, .cells [(.slice _ _ _), (.slice _ _ _), (.slice _ _ _)].toArray 47 (0, 0))], [(_, .cells [(.slice _ _ _), (.slice _ _ _), (.slice _ _ _)].toArray 47 (0, 0))], [(_, .cells [(.int _ _), (.int _ _), (.slice _ _ _)].toArray 136 (0, 0))], [(_, .cells [(.int _ _)].toArray 3 (0, 0))]] rfl ?_; refine s_seq (s_region ?_); refine o_val rfl rfl rfl (y_loads (cs := [_, _, _]) Try.isAgg47 Try.sizeOf47 rfl rfl rfl (cels_own 2 rfl rfl)) ?_; refine o_stores (vs := [(.slice _ _ _), (.slice _ _ _), (.slice _ _ _)]) 6 rfl Try.sizeOf47 rfl rfl rfl (by simp [Value.oneCell']) (by simp) (o_nil ?_); refine s_ret ?_; have hgk2 : g.k = w.iN := by omega
   have hil := hch.2.1; have hall : ∀ (X : Grp), X ∈ ([E54, E47, g.P] : List Grp) → MSub (inG X) (orM V0 (inG ([E54, E47, g.P] : List Grp).flatten)) := fun X hX => (inG_mem hX).trans orM_right; exact ⟨_, [([E54, E47, g.P] : List Grp).flatten], resv1 rfl (RV.cells (cs := [_, _, _]) rfl Try.isAgg47 Try.sizeOf47 rfl rfl (cels_own 6 rfl rfl)), ⟨⟨w.kA, w.kn, w.kc, w.ks, A52, w.gn + 1, c53, g.gs ++ [0], A45, g.its.length + 1, c46, g.its ++ [IR.mk (g.gs.length : Nat) 0 none 0 0 []]⟩, _, rfl, ⟨KsOK.sub ⟨hwKl, hwKc, hwKb, hwK0, hwKK⟩ orM_left, ⟨by simp only [List.length_append, List.length_singleton]; omega, ho57.2.1, by dsimp only; omega, ho57.mem.ms (hall _ (by simp))⟩, ⟨by simp, ho50.2.1, by dsimp only; omega, ho50.mem.ms (hall _ (by simp)), all_snoc (fun x hx => (hii x hx).sub (hall _ (by simp))) (iok_nil _ _ _)⟩⟩, rfl, chg_more (w := w) hch hw0.2.2.2 hw0.1 (by omega) (by omega) hb, by simp only [List.length_append, List.length_singleton]; omega, by simp only [List.length_append, List.length_singleton]; omega, by simp only [List.length_append, List.length_singleton]; omega, fun j hj => by dsimp only; rw [getD_snoc (by omega), if_neg (by omega)]; exact hch.2.2.2.2.2.2 j, fun j hj => by rw [List.length_append, List.length_singleton] at hj; rw [getD_snoc hj]; split; (· omega); (· exact (hch.2.2.2.2.1 j (by omega)).2), rfl⟩, Sub.trans sub_flat (sub_picks [1, 2, 2] rfl)⟩
  ·refine s_skip ?_; refine s_seq (s_region ?_); refine o_val rfl rfl rfl (y_loads (cs := [_, _, _]) Try.isAgg47 Try.sizeOf47 rfl rfl rfl (cels_own 2 rfl rfl)) ?_; refine o_stores (vs := [(.slice _ _ _), (.slice _ _ _), (.slice _ _ _)]) 6 rfl Try.sizeOf47 rfl rfl rfl (by simp [Value.oneCell']) (by simp) (o_nil ?_); refine s_ret ?_; have hgk2 : g.k = w.iN := by omega
   have hil := hch.2.1; have hall : ∀ (X : Grp), X ∈ ([g.gE, g.iE, g.P] : List Grp) → MSub (inG X) (orM V0 (inG ([g.gE, g.iE, g.P] : List Grp).flatten)) := fun X hX => (inG_mem hX).trans orM_right; exact ⟨_, [([g.gE, g.iE, g.P] : List Grp).flatten], resv1 rfl (RV.cells (cs := [_, _, _]) rfl Try.isAgg47 Try.sizeOf47 rfl rfl (cels_own 6 rfl rfl)), ⟨⟨w.kA, w.kn, w.kc, w.ks, u.gB, w.gn, u.ge, g.gs, g.iA, g.its.length, g.iC, g.its⟩, _, rfl, ⟨KsOK.sub ⟨hwKl, hwKc, hwKb, hwK0, hwKK⟩ orM_left, ⟨by dsimp only; omega, hgo.2.1, by dsimp only; omega, hgo.mem.ms (hall _ (by simp))⟩, ⟨rfl, hio.2.1, by dsimp only; omega, hio.mem.ms (hall _ (by simp)), fun x hx => (hii x hx).sub (hall _ (by simp))⟩⟩, rfl, chg_end (w := w) hch hw0.1 (by omega) (by omega) hb, by dsimp only; omega, by dsimp only; omega, by dsimp only; omega, fun j _ => hch.2.2.2.2.2.2 j, fun j hj => (hch.2.2.2.2.1 j hj).2, rfl⟩, Sub.trans sub_flat (sub_picks [1, 2, 2] rfl)⟩

end Go.Proofs.Ytacmbiohjiogiaa.K
end
section
set_option linter.unusedVariables false
set_option linter.unusedSimpArgs false
set_option maxRecDepth 100000
namespace Go.Proofs.Ytacmbiohjiogiaa.K
open Go.RowKit

def spotFs : List FR := [⟨⟨#[120]⟩, 8, -100⟩, ⟨⟨#[121]⟩, 8, -100⟩]
def spotK (b : Nat) : KR := ⟨⟨#[115, 112, 111, 116]⟩, some ⟨b, 0, none⟩, 2, 2, spotFs⟩
theorem spot_ok (b : Nat) : ckErr [spotK b] = 0 := by
 show ckErr [spotK 0] = 0
 decide

theorem fieldK_k0 (v0 : ByteArray) (v1 : Int) (v2 : Int) (w : World) : (Instr.build 61 ([(0, (.string v0)), (1, (.int .i64 v1)), (2, (.int .i64 v2))] : List (Nat × Value)).toArray).run Try.prog w = .ok (.agg #[.string v0, .int .i64 v1, .int .i64 v2]) w := by kernel_rfl
theorem fieldK_c {V : Mem} (s : ByteArray) (b l : Int) : CallS Try.prog 150 [.string s, .int .i64 b, .int .i64 l].toArray V [] (fun r L' => r = .agg #[.string s, .int .i64 b, .int .i64 l] ∧ L' = []) := by
 refine callS Try.func150 rfl rfl (fun w0 => ?_); refine s_seq (s_region ?_); refine o_alloc rfl Try.zeroValue61 rfl (fun b1 => ?_); refine o_nil ?_; refine s_seq (s_region ?_); refine o_val rfl rfl rfl (y_move (v := (.string _)) rfl) ?_; refine o_val rfl rfl rfl (y_move (v := (.int _ _)) rfl) ?_; refine o_val rfl rfl rfl (y_move (v := (.int _ _)) rfl) ?_; refine o_val rfl rfl rfl (y_build (vs := [(0, .string _), (1, .int _ _), (2, .int _ _)]) rfl (fieldK_k0 _ _ _)) ?_; refine o_stores (vs := [(.string _), (.int _ _), (.int _ _)]) 0 rfl Try.sizeOf61 rfl rfl rfl (by simp [Value.oneCell']) (by simp) (o_nil ?_); refine s_ret ?_; exact ⟨_, [], resv1 rfl (RV.cells (cs := [_, _, _]) rfl Try.isAgg61 Try.sizeOf61 rfl rfl (cels_own 0 rfl rfl)), ⟨rfl, rfl⟩, sub_picks [] rfl⟩

theorem Kinds0_k0 (v0x0 : ByteArray) (v0x1 : Int) (v0x2 : Int) (v1x0 : ByteArray) (v1x1 : Int) (v1x2 : Int) (w : World) : (Instr.buildSlice 56 2 ([(0, (.agg #[(.string v0x0), (.int .i64 v0x1), (.int .i64 v0x2)])), (1, (.agg #[(.string v1x0), (.int .i64 v1x1), (.int .i64 v1x2)]))] : List (Nat × Value)).toArray).run Try.prog w = .ok (.slice (some ⟨w.heap.size, 0, none⟩) 2 2) { w with heap := w.heap.push (.cells ([.string v0x0, .int .i64 v0x1, .int .i64 v0x2, .string v1x0, .int .i64 v1x1, .int .i64 v1x2] : List Value).toArray 61 (0, 0)) } := by kernel_rfl
theorem Kinds0_k1 (v0 : ByteArray) (v1A : Option Addr) (v1n : Nat) (v1c : Nat) (w : World) : (Instr.build 58 ([(0, (.string v0)), (1, (.slice v1A v1n v1c))] : List (Nat × Value)).toArray).run Try.prog w = .ok (.agg #[.string v0, .slice v1A v1n v1c]) w := by kernel_rfl
theorem Kinds0_k2 (v0x0 : ByteArray) (v0x1A : Option Addr) (v0x1n : Nat) (v0x1c : Nat) (w : World) : (Instr.buildSlice 23 1 ([(0, (.agg #[(.string v0x0), (.slice v0x1A v0x1n v0x1c)]))] : List (Nat × Value)).toArray).run Try.prog w = .ok (.slice (some ⟨w.heap.size, 0, none⟩) 1 1) { w with heap := w.heap.push (.cells ([.string v0x0, .slice v0x1A v0x1n v0x1c] : List Value).toArray 58 (0, 0)) } := by kernel_rfl
theorem Kinds0_c {V : Mem} : CallS Try.prog 90 [.int .i64 0].toArray V [] (fun r L' => ∃ (b6 b8 : Nat), r = .slice (some ⟨b8, 0, none⟩) 1 1 ∧ L' = [[(b6, .cells (spotFs.flatMap encF).toArray 61 (0, 0))], [(b8, .cells ([spotK b6].flatMap encK).toArray 58 (0, 0))]]) := by
 refine callS Try.func90 rfl rfl (fun w0 => ?_); refine s_seq (s_region ?_); refine o_val rfl rfl rfl (y_assign (v := (.slice _ _ _)) rfl) (o_nil ?_); refine s_seq (s_region ?_); refine o_fn 0 (d := 4) rfl Try.call150 (fieldK_c _ _ _) rfl ?_; rintro _ _ ⟨rfl, rfl⟩; refine o_fn 0 (d := 5) rfl Try.call150 (fieldK_c _ _ _) rfl ?_; rintro _ _ ⟨rfl, rfl⟩; refine o_lit (vs := [(0, .agg #[.string _, .int _ _, .int _ _]), (1, .agg #[.string _, .int _ _, .int _ _])]) rfl rfl (Kinds0_k0 _ _ _ _ _ _) (fun b1 => ?_); refine o_val rfl rfl rfl (y_build (vs := [(0, .string _), (1, .slice _ _ _)]) rfl (Kinds0_k1 _ _ _ _)) ?_; refine o_lit (vs := [(0, .agg #[.string _, .slice _ _ _])]) rfl rfl (Kinds0_k2 _ _ _ _) (fun b2 => ?_); refine o_val rfl rfl rfl (y_assign (v := (.slice _ _ _)) rfl) (o_nil ?_); refine s_seq ?_; refine s_seq (s_region ?_); refine o_val rfl rfl rfl (y_move (v := (.int _ _)) rfl) ?_; refine o_val rfl rfl rfl (y_and rfl rfl) ?_; refine o_val rfl rfl rfl (y_eql rfl rfl) (o_nil ?_); refine s_if rfl (fun h3 => ?_) (fun h4 => ?_)
 ·exact absurd h3 (by decide)
 ·refine s_skip ?_; refine s_seq ?_; refine s_seq (s_region ?_); refine o_val rfl rfl rfl (y_move (v := (.int _ _)) rfl) ?_; refine o_val rfl rfl rfl (y_and rfl rfl) ?_; refine o_val rfl rfl rfl (y_eql rfl rfl) (o_nil ?_); refine s_forget [(0, (.int _ _)), (2, (.slice _ _ _)), (3, (.slice _ _ _)), (23, (.bool _))] ⟨rfl, rfl, rfl, rfl, trivial⟩ (fun _f => ?_); refine s_if rfl (fun h5 => ?_) (fun h6 => ?_)
  ·exact absurd h5 (by decide)
  ·refine s_skip ?_; refine s_seq ?_; refine s_seq (s_region ?_); refine o_val rfl rfl rfl (y_move (v := (.int _ _)) rfl) ?_; refine o_val rfl rfl rfl (y_and rfl rfl) ?_; refine o_val rfl rfl rfl (y_eql rfl rfl) (o_nil ?_); refine s_if rfl (fun h7 => ?_) (fun h8 => ?_)
   ·exact absurd h7 (by decide)
   ·refine s_skip ?_; refine s_seq (s_region ?_); refine o_val rfl rfl rfl (y_move (v := (.slice _ _ _)) rfl) ?_; refine o_val rfl rfl rfl (y_assign (v := (.slice _ _ _)) rfl) (o_nil ?_); refine s_ret ?_; exact ⟨_, [[(b1, .cells (spotFs.flatMap encF).toArray 61 (0, 0))], [(b2, .cells [.string ⟨#[115, 112, 111, 116]⟩, .slice (some ⟨b1, 0, none⟩) 2 2].toArray 58 (0, 0))]], res1 rfl rfl, ⟨b1, b2, rfl, rfl⟩, sub_picks [0, 0] rfl⟩

end Go.Proofs.Ytacmbiohjiogiaa.K
end
section
namespace Go.Proofs.Ytacmbiohjiogiaa.K
open Go.RowKit

theorem ofInt_toNat (w : Nat) (a : Int) (h0 : 0 ≤ a) (h1 : a.toNat < 2 ^ w) : (BitVec.ofInt w a).toNat = a.toNat := by
 obtain ⟨n, rfl⟩ := Int.eq_ofNat_of_zero_le h0; simp at h1 ⊢; exact Nat.mod_eq_of_lt h1
theorem bOr_u8 {a b : Int} (ha : 0 ≤ a ∧ a ≤ 255) (hb : 0 ≤ b ∧ b ≤ 255) : bOr .u8 a b = ((a.toNat ||| b.toNat : Nat) : Int) := by
 unfold bOr; have h1 := ofInt_toNat 8 a ha.1 (by omega); have h2 := ofInt_toNat 8 b hb.1 (by omega); have h3 : a.toNat ||| b.toNat < 2 ^ 8 := Nat.or_lt_two_pow (by omega) (by omega); rw [show IntKind.u8.bits = 8 from rfl, BitVec.toNat_or, h1, h2]; exact wrap_in ⟨by omega, by omega⟩
theorem bAnd_one {k : IntKind} {a : Int} (hk : k = .u64) (ha : 0 ≤ a ∧ a ≤ 18446744073709551615) : bAnd k a 1 = a % 2 := by
 subst hk; unfold bAnd; have h1 := ofInt_toNat 64 a ha.1 (by omega); have h2 := ofInt_toNat 64 1 (by omega) (by omega); rw [show IntKind.u64.bits = 64 from rfl, BitVec.toNat_and, h1, h2, show (1 : Int).toNat = 1 from rfl, Nat.and_one_is_mod]; rw [wrap_in (k := .u64) (by simp only [inK]; omega)]; omega

/-- The bytes 'bs' hold the bits. -/
def Wr (bs : List Int) (bits : List Bool) : Prop :=
 bs.length = (bits.length + 7) / 8 ∧ (∀ b ∈ bs, 0 ≤ b ∧ b ≤ 255) ∧ ∀ j t, j < bs.length → t < 8 → (bs.getD j 0).toNat.testBit t = bits.getD (8 * j + t) false
theorem Wr.nil : Wr [] [] := ⟨rfl, by simp, by simp⟩
theorem getD_mem {α : Type} {l : List α} {j : Nat} {d : α} (h : j < l.length) : l.getD j d ∈ l := by
 rw [List.getD_eq_getElem?_getD, List.getElem?_eq_getElem h]; simp
theorem Wr.bd {bs : List Int} {bits : List Bool} (h : Wr bs bits) (j : Nat) : 0 ≤ bs.getD j 0 ∧ bs.getD j 0 ≤ 255 := by
 by_cases hj : j < bs.length
 ·exact h.2.1 _ (getD_mem hj)
 ·rw [List.getD_eq_getElem?_getD, List.getElem?_eq_none (by omega)]; simp
theorem byte_ext {a b : Int} (ha : 0 ≤ a ∧ a ≤ 255) (hb : 0 ≤ b ∧ b ≤ 255) (h : ∀ t, t < 8 → a.toNat.testBit t = b.toNat.testBit t) : a = b := by
 have : a.toNat = b.toNat := by
  apply Nat.eq_of_testBit_eq
  intro t
  by_cases ht : t < 8
  ·exact h t ht
  ·rw [Nat.testBit_lt_two_pow (Nat.lt_of_lt_of_le (show a.toNat < 2 ^ 8 by omega) (Nat.pow_le_pow_right (by omega) (by omega))), Nat.testBit_lt_two_pow (Nat.lt_of_lt_of_le (show b.toNat < 2 ^ 8 by omega) (Nat.pow_le_pow_right (by omega) (by omega)))]
 omega
theorem Wr.unique {bs cs : List Int} {bits : List Bool} (h : Wr bs bits) (h' : Wr cs bits) : bs = cs := by
 apply List.ext_getElem (by rw [h.1, h'.1])
 intro j h1 h2; have e1 : bs.getD j 0 = bs[j] := by simp [h1]
 have e2 : cs.getD j 0 = cs[j] := by simp [h2]
 rw [← e1, ← e2]; exact byte_ext (h.bd j) (h'.bd j) fun t ht => by rw [h.2.2 j t h1 ht, h'.2.2 j t h2 ht]

/-- The slot for the next bit is there. -/
def room (bs : List Int) (n : Nat) : List Int := if n % 8 = 0 then bs ++ [0] else bs
theorem Wr.roomLen {bs : List Int} {bits : List Bool} (h : Wr bs bits) : (room bs bits.length).length = bits.length / 8 + 1 := by
 unfold room; have := h.1
 split
 ·simp; omega
 ·omega
theorem Wr.roomBd {bs : List Int} {bits : List Bool} (h : Wr bs bits) : ∀ b ∈ room bs bits.length, 0 ≤ b ∧ b ≤ 255 := by
 unfold room
 split
 ·intro b hb; rcases List.mem_append.1 hb with hb | hb
  ·exact h.2.1 b hb
  ·simp at hb; subst hb; omega
 ·exact h.2.1
theorem Wr.roomBit {bs : List Int} {bits : List Bool} (h : Wr bs bits) {j t : Nat} (hj : j < bits.length / 8 + 1) (ht : t < 8) : ((room bs bits.length).getD j 0).toNat.testBit t = bits.getD (8 * j + t) false := by
 have hl := h.1; unfold room
 split
 ·rename_i hm
  by_cases hjl : j < bs.length
  ·have : (bs ++ [0]).getD j 0 = bs.getD j 0 := by simp [List.getD_eq_getElem?_getD, List.getElem?_append_left hjl]
   rw [this]; exact h.2.2 j t hjl ht
  ·have hjl' : j = bs.length := by omega
   subst hjl'; have : (bs ++ [0]).getD bs.length 0 = (0 : Int) := by simp
   rw [this, List.getD_eq_getElem?_getD, List.getElem?_eq_none (by omega)]; simp
 ·exact h.2.2 j t (by omega) ht
theorem pow_bit (t u : Nat) : (2 ^ t).testBit u = decide (t = u) := by rw [Nat.testBit_two_pow]
theorem pow_le_255 {t : Nat} (h : t < 8) : 2 ^ t ≤ 128 := by
 have := Nat.pow_le_pow_right (show 0 < 2 by omega) (show t ≤ 7 by omega); omega
theorem Wr.step {bs : List Int} {bits : List Bool} (h : Wr bs bits) (b : Bool) {x : Int} (hx : x = if b then ((2 ^ (bits.length % 8) : Nat) : Int) else 0) :
  Wr ((room bs bits.length).set (bits.length / 8) (bOr .u8 ((room bs bits.length).getD (bits.length / 8) 0) x)) (bits ++ [b]) := by
 have hrl := h.roomLen; have ht8 : bits.length % 8 < 8 := Nat.mod_lt _ (by omega); have hp := pow_le_255 ht8; have hxb : 0 ≤ x ∧ x ≤ 255 := by
  subst hx
  generalize 2 ^ (bits.length % 8) = p at hp
  split <;> omega
 have hob : 0 ≤ (room bs bits.length).getD (bits.length / 8) 0 ∧ (room bs bits.length).getD (bits.length / 8) 0 ≤ 255 := h.roomBd _ (getD_mem (by omega)); refine ⟨by simp [hrl]; omega, ?_, ?_⟩
 ·intro c hc; rcases List.mem_or_eq_of_mem_set hc with hc | rfl
  ·exact h.roomBd c hc
  ·rw [bOr_u8 hob hxb]; have : ((room bs bits.length).getD (bits.length / 8) 0).toNat ||| x.toNat < 2 ^ 8 := Nat.or_lt_two_pow (by omega) (by omega); omega
 ·intro j t hj ht; rw [List.length_set, hrl] at hj; have hr := h.roomBit hj ht
  by_cases hjn : j = bits.length / 8
  ·subst hjn; have e1 : ((room bs bits.length).set (bits.length / 8) (bOr .u8 ((room bs bits.length).getD (bits.length / 8) 0) x)).getD (bits.length / 8) 0 = bOr .u8 ((room bs bits.length).getD (bits.length / 8) 0) x := by
    simp [List.getD_eq_getElem?_getD, hrl]
   rw [e1, bOr_u8 hob hxb, Int.toNat_natCast, Nat.testBit_or, hr]; have hxt : x.toNat.testBit t = (b && decide (bits.length % 8 = t)) := by
    subst hx
    cases b
    ·simp
    ·simp only [if_true, Int.toNat_natCast, pow_bit, Bool.true_and]
   rw [hxt]
   by_cases htt : bits.length % 8 = t
   ·have hidx : 8 * (bits.length / 8) + t = bits.length := by omega
    rw [hidx]; simp [htt]
   ·have hne : 8 * (bits.length / 8) + t ≠ bits.length := by omega
    simp only [htt, decide_false, Bool.and_false, Bool.or_false]; simp only [List.getD_eq_getElem?_getD, List.getElem?_append]
    split
    ·rfl
    ·rename_i hh
     rw [List.getElem?_eq_none (by omega), List.getElem?_eq_none (by simp; omega)]
  ·have e1 : ((room bs bits.length).set (bits.length / 8) (bOr .u8 ((room bs bits.length).getD (bits.length / 8) 0) x)).getD j 0 = (room bs bits.length).getD j 0 := by
    simp [List.getD_eq_getElem?_getD, Ne.symm hjn]
   rw [e1, hr]; simp only [List.getD_eq_getElem?_getD, List.getElem?_append]; rw [if_pos (by omega)]

/-- The n lowest bits of a number, the lowest first. -/
def bitsOf (v : Int) (n : Nat) : List Bool := (List.range n).map fun i => v.toNat.testBit i
theorem bitsOf_zero (v : Int) : bitsOf v 0 = [] := rfl
theorem bitsOf_succ (v : Int) (n : Nat) : bitsOf v (n + 1) = bitsOf v n ++ [v.toNat.testBit n] := by simp [bitsOf, List.range_succ]
theorem bitsOf_len (v : Int) (n : Nat) : (bitsOf v n).length = n := by simp [bitsOf]
/-- A number's bit as the code takes it: shifted down, masked, made a byte, shifted up. -/
theorem bit_byte {v : Int} (hv : 0 ≤ v ∧ v ≤ 18446744073709551615) {i t : Nat} (hi : i < 64) (ht : t < 8) :
  IntKind.u8.wrap (IntKind.u8.wrap (bAnd .u64 (v.fdiv (2 ^ (min i 64))) 1) * 2 ^ (min t 8)) = if v.toNat.testBit i then ((2 ^ t : Nat) : Int) else 0 := by
 obtain ⟨n, rfl⟩ := Int.eq_ofNat_of_zero_le hv.1; rw [show min i 64 = i by omega, show min t 8 = t by omega]; have h1 : (n : Int).fdiv (2 ^ i) = ((n / 2 ^ i : Nat) : Int) := by
  rw [Int.fdiv_eq_ediv_of_nonneg _ (Int.le_of_lt (Int.pow_pos (by omega)))]; simp
 rw [h1]; have h2 : n / 2 ^ i ≤ n := Nat.div_le_self _ _; rw [bAnd_one rfl ⟨Int.natCast_nonneg _, Int.le_trans (Int.ofNat_le.2 h2) hv.2⟩]; have h3 : ((n / 2 ^ i : Nat) : Int) % 2 = if n.testBit i then 1 else 0 := by
  rw [Nat.testBit_eq_decide_div_mod_eq]
  by_cases hh : n / 2 ^ i % 2 = 1
  ·rw [if_pos (by simpa using hh)]; omega
  ·rw [if_neg (by simpa using hh)]; omega
 rw [h3, Int.toNat_natCast]; have hp := pow_le_255 ht
 split
 ·rw [wrap_in (k := .u8) (n := 1) (by simp only [inK]; omega), Int.one_mul, wrap_in (k := .u8)]
  ·simp
  ·have : (2 : Int) ^ t = ((2 ^ t : Nat) : Int) := by simp
   rw [this]; simp only [inK]; generalize 2 ^ t = p at hp; omega
 ·rw [wrap_in (k := .u8) (n := 0) (by simp only [inK]; omega), Int.zero_mul]; rfl
end Go.Proofs.Ytacmbiohjiogiaa.K
end
section
namespace Go.Proofs.Ytacmbiohjiogiaa.K
open Go.RowKit

def bitAt (bs : List Int) (p : Nat) : Bool := (bs.getD (p / 8) 0).toNat.testBit (p % 8)
/-- The number of so many bits from a place on. -/
def num (bs : List Int) (p : Nat) : Nat → Nat
 | 0 => 0
 | k + 1 => num bs p k + (if bitAt bs (p + k) then 2 ^ k else 0)
theorem num_lt (bs : List Int) (p : Nat) : ∀ k, num bs p k < 2 ^ k
 | 0 => by simp [num]
 | k + 1 => by
  have := num_lt bs p k; simp only [num, Nat.pow_succ]
  split <;> omega
theorem num_succ_or (bs : List Int) (p k : Nat) : num bs p (k + 1) = num bs p k ||| (if bitAt bs (p + k) then 2 ^ k else 0) := by
 have h := num_lt bs p k; simp only [num]
 split
 ·have := Nat.two_pow_add_eq_or_of_lt h 1; rw [Nat.mul_one] at this; rw [Nat.add_comm, this, Nat.or_comm]
 ·simp
theorem num_testBit (bs : List Int) (p : Nat) : ∀ k i, (num bs p k).testBit i = (decide (i < k) && bitAt bs (p + i))
 | 0, i => by simp [num]
 | k + 1, i => by
  rw [num_succ_or, Nat.testBit_or, num_testBit bs p k i]
  by_cases h1 : i < k
  ·have : (if bitAt bs (p + k) then 2 ^ k else 0).testBit i = false := by
    split
    ·rw [Nat.testBit_two_pow]; simp; omega
    ·simp
   rw [this]; simp [h1, show i < k + 1 by omega]
  ·by_cases h2 : i = k
   ·subst h2
    by_cases h3 : bitAt bs (p + i) = true
    ·simp [h3, Nat.testBit_two_pow]
    ·simp at h3; simp [h3]
   ·have : (if bitAt bs (p + k) then 2 ^ k else 0).testBit i = false := by
     split
     ·rw [Nat.testBit_two_pow]; simp; omega
     ·simp
    rw [this]; simp [h1, show ¬ i < k + 1 by omega]
/-- The number whose bits these are. -/
theorem num_of {bs : List Int} {p k : Nat} {v : Int} (hv : 0 ≤ v ∧ v < 2 ^ k) (h : ∀ i, i < k → bitAt bs (p + i) = v.toNat.testBit i) : (num bs p k : Int) = v := by
 obtain ⟨n, rfl⟩ := Int.eq_ofNat_of_zero_le hv.1
 congr 1
 apply Nat.eq_of_testBit_eq
 intro i; rw [num_testBit]
 by_cases hi : i < k
 ·rw [h i hi]; simp [hi]
 ·have : n < 2 ^ k := by have := hv.2; exact_mod_cast this
  rw [Nat.testBit_lt_two_pow (Nat.lt_of_lt_of_le this (Nat.pow_le_pow_right (by omega) (by omega)))]; simp [hi]
theorem u8_bit {b : Int} (hb : 0 ≤ b ∧ b ≤ 255) {r : Nat} (hr : r < 8) : bAnd .u8 (b.fdiv (2 ^ (min r 8))) 1 = if b.toNat.testBit r then 1 else 0 := by
 obtain ⟨n, rfl⟩ := Int.eq_ofNat_of_zero_le hb.1; rw [show min r 8 = r by omega]; have h1 : (n : Int).fdiv (2 ^ r) = ((n / 2 ^ r : Nat) : Int) := by
  rw [Int.fdiv_eq_ediv_of_nonneg _ (Int.le_of_lt (Int.pow_pos (by omega)))]; simp
 have h2 : n / 2 ^ r ≤ n := Nat.div_le_self _ _; rw [h1, Int.toNat_natCast, Nat.testBit_eq_decide_div_mod_eq]
 generalize n / 2 ^ r = m at h2
 have h3 := ofInt_toNat 8 (m : Int) (by omega) (by omega); have h4 := ofInt_toNat 8 1 (by omega) (by omega); unfold bAnd; rw [show IntKind.u8.bits = 8 from rfl, BitVec.toNat_and, h3, h4, show (1 : Int).toNat = 1 from rfl, Nat.and_one_is_mod, Int.toNat_natCast]; rw [wrap_in (k := .u8) (by simp only [inK]; omega)]
 by_cases hh : m % 2 = 1
 ·simp [hh]
 ·simp [hh, show m % 2 = 0 by omega]
theorem bytes_bd {bs : List Int} (hb : ∀ b ∈ bs, 0 ≤ b ∧ b ≤ 255) (j : Nat) : 0 ≤ bs.getD j 0 ∧ bs.getD j 0 ≤ 255 := by
 by_cases hj : j < bs.length
 ·exact hb _ (getD_mem hj)
 ·rw [List.getD_eq_getElem?_getD, List.getElem?_eq_none (by omega)]; simp
theorem bit_q {bs : List Int} (hb : ∀ b ∈ bs, 0 ≤ b ∧ b ≤ 255) (q : Nat) : bAnd .u8 ((bs.getD ((q : Int) / 8).toNat 0).fdiv (2 ^ (min (((q : Int) % 8).toNat) 8))) 1 = if bitAt bs q then 1 else 0 := by
 rw [show ((q : Int) / 8).toNat = q / 8 by omega, show ((q : Int) % 8).toNat = q % 8 by omega, u8_bit (bytes_bd hb _) (Nat.mod_lt _ (by omega))]
 rfl
theorem bit_q_bd {bs : List Int} (hb : ∀ b ∈ bs, 0 ≤ b ∧ b ≤ 255) (q : Nat) : 0 ≤ bAnd .u8 ((bs.getD ((q : Int) / 8).toNat 0).fdiv (2 ^ (min (((q : Int) % 8).toNat) 8))) 1 ∧ bAnd .u8 ((bs.getD ((q : Int) / 8).toNat 0).fdiv (2 ^ (min (((q : Int) % 8).toNat) 8))) 1 ≤ 1 := by
 rw [bit_q hb]; split <;> omega
theorem bit_q_in {bs : List Int} (hb : ∀ b ∈ bs, 0 ≤ b ∧ b ≤ 255) (q : Nat) : inK .u64 (bAnd .u8 ((bs.getD ((q : Int) / 8).toNat 0).fdiv (2 ^ (min (((q : Int) % 8).toNat) 8))) 1) := by
 have := bit_q_bd hb q; simp only [inK]; omega
theorem bOr_u64 {a b : Int} (ha : 0 ≤ a ∧ a < 18446744073709551616) (hb : 0 ≤ b ∧ b < 18446744073709551616) : bOr .u64 a b = ((a.toNat ||| b.toNat : Nat) : Int) := by
 unfold bOr; have h1 := ofInt_toNat 64 a ha.1 (by omega); have h2 := ofInt_toNat 64 b hb.1 (by omega); have h3 : a.toNat ||| b.toNat < 2 ^ 64 := Nat.or_lt_two_pow (by omega) (by omega); rw [show IntKind.u64.bits = 64 from rfl, BitVec.toNat_or, h1, h2]; exact wrap_in (by simp only [inK]; omega)
theorem pow_bdB {k n : Nat} (h : k < n) : 2 ^ k * 2 ≤ 2 ^ n := by
 have := Nat.pow_le_pow_right (show 0 < 2 by omega) (show k + 1 ≤ n by omega)
 rwa [Nat.pow_succ] at this
theorem bit_shl {k : IntKind} {b : Bool} {i n : Nat} (hi : i < n) (hn : n ≤ 64) (h : inK k ((2 ^ i : Nat) : Int)) (h0 : inK k 0) : k.wrap ((if b then 1 else 0) * 2 ^ (min ((i : Int).toNat) 64)) = ((if b then 2 ^ i else 0 : Nat) : Int) := by
 rw [show min (i : Int).toNat 64 = i by omega]
 cases b
 ·simp only [Bool.false_eq_true, if_false, Int.zero_mul]; exact wrap_in h0
 ·simp only [if_true, Int.one_mul]; rw [show (2 : Int) ^ i = ((2 ^ i : Nat) : Int) by simp]; exact wrap_in h
theorem get_step {bs : List Int} (hb : ∀ b ∈ bs, 0 ≤ b ∧ b ≤ 255) {p i : Nat} (hi : i < 64) :
  bOr .u64 (num bs p i : Nat) (IntKind.u64.wrap (bAnd .u8 ((bs.getD (((p + i : Nat) : Int) / 8).toNat 0).fdiv (2 ^ (min ((((p + i : Nat) : Int) % 8).toNat) 8))) 1 * 2 ^ (min ((i : Int).toNat) 64))) = (num bs p (i + 1) : Nat) := by
 have hp := pow_bdB hi; have hl := num_lt bs p i; rw [bit_q hb, bit_shl hi (Nat.le_refl _) (by simp only [inK]; generalize 2 ^ i = z at hp; omega) (by simp only [inK]; omega)]; rw [bOr_u64 ⟨by omega, by generalize 2 ^ i = z at *; omega⟩ ⟨by split <;> omega, by generalize 2 ^ i = z at *; split <;> omega⟩, Int.toNat_natCast, Int.toNat_natCast, num_succ_or]
/-! What a reader of so many bits answers: the number, the fault, the place behind. -/
def gv (bs : List Int) (N p m : Nat) : Int := if N < p + m then 0 else num bs p m
def ge (N p m : Nat) : Int := if N < p + m then 14 else 0
def gp (N p m : Nat) : Nat := if N < p + m then p else p + m
theorem gp_le {N p m : Nat} (h : p ≤ N) : gp N p m ≤ N := by unfold gp; split <;> omega
end Go.Proofs.Ytacmbiohjiogiaa.K
end
section
set_option linter.unusedVariables false
set_option linter.unusedSimpArgs false
set_option maxRecDepth 100000
namespace Go.Proofs.Ytacmbiohjiogiaa.K
open Go.RowKit

/-- Is an input one that the program takes? -/
def okIn (k x y : Int) : Prop := 0 ≤ k ∧ k ≤ 255 ∧ -128 ≤ x ∧ x ≤ 127 ∧ -128 ≤ y ∧ y ≤ 127
instance (k x y : Int) : Decidable (okIn k x y) := by unfold okIn; infer_instance
/-- A writer in a loop. -/
structure WS where
 i : Nat
 A : Option Addr
 n : Nat
 c : Nat
 E : Grp
 bs : List Int
 bits : List Bool
/-- A writer's own block. -/
def wgrp (g : Nat) (A : Option Addr) (n c : Nat) (k : Int) : Grp := [(g, .cells [.slice A n c, .int .i64 k].toArray 266 (0, 0))]
theorem shr_none {v : Int} {n : Nat} (h0 : 0 ≤ v) (hn : n ≤ 64) (h : v < 2 ^ n) : v.fdiv (2 ^ (min (n : Int).toNat 64)) = 0 := by
 rw [show min (n : Int).toNat 64 = n by omega, Int.fdiv_eq_ediv_of_nonneg _ (Int.le_of_lt (Int.pow_pos (by omega)))]; exact Int.ediv_eq_zero_of_lt h0 h
theorem room_yes {bs : List Int} {n : Nat} (h : n % 8 = 0) : room bs n = bs ++ [0] := by simp [room, h]
theorem room_no {bs : List Int} {n : Nat} (h : ¬ n % 8 = 0) : room bs n = bs := by simp [room, h]
theorem put_step {bs : List Int} {bits : List Bool} {v : Int} {i : Nat} (h : Wr bs (bits ++ bitsOf v i)) (hv : 0 ≤ v ∧ v ≤ 18446744073709551615) (hi : i < 64) :
  Wr ((room bs (bits.length + i)).set ((((bits.length + i : Nat) : Int) / 8).toNat) (bOr .u8 ((room bs (bits.length + i)).getD ((((bits.length + i : Nat) : Int) / 8).toNat) 0)
   (IntKind.u8.wrap (IntKind.u8.wrap (bAnd .u64 (v.fdiv (2 ^ (min ((i : Int).toNat) 64))) 1) * 2 ^ (min ((((bits.length + i : Nat) : Int) % 8).toNat) 8))))) (bits ++ bitsOf v (i + 1)) := by
 have hl : (bits ++ bitsOf v i).length = bits.length + i := by rw [List.length_append, bitsOf_len]
 have h1 : (((bits.length + i : Nat) : Int) / 8).toNat = (bits.length + i) / 8 := by omega
 have h2 : (((bits.length + i : Nat) : Int) % 8).toNat = (bits.length + i) % 8 := by omega
 have hs := h.step (v.toNat.testBit i) (x := _) rfl; rw [hl] at hs; rw [h1, h2, Int.toNat_natCast, bit_byte hv hi (Nat.mod_lt _ (by omega)), bitsOf_succ, ← List.append_assoc]; exact hs
theorem map_one (bs : List Int) : List.map (Value.int .u8) bs ++ [Value.int .u8 0] = (bs ++ [0]).map (Value.int .u8) := by simp

theorem Put_k0 (v0 : Int) (w : World) : (Instr.buildSlice 76 1 ([(0, (.int .u8 v0))] : List (Nat × Value)).toArray).run Try.prog w = .ok (.slice (some ⟨w.heap.size, 0, none⟩) 1 1) { w with heap := w.heap.push (.cells ([.int .u8 v0] : List Value).toArray 5 (0, 0)) } := by kernel_rfl
theorem Put_c (p : Nat) (A : Option Addr) (m c : Nat) (E : Grp) (bs : List Int) (bits : List Bool) (v : Int) (n : Nat) (hW : Wr bs bits) (hos : OS A m c 5 1 (bs.map (.int .u8)) E)
  (hv : 0 ≤ v ∧ v ≤ 18446744073709551615) (hn : n ≤ 64) (hvn : n < 64 → v < 2 ^ n) (hfit : bits.length + n ≤ 524288) (V : Mem) :
  CallS Try.prog 164 [.pointer (some ⟨p, 0, none⟩), .int .u64 v, .int .i64 n].toArray V [wgrp p A m c bits.length, E]
   (fun r L' => r = .int .i64 0 ∧ ∃ A m c E bs', Wr bs' (bits ++ bitsOf v n) ∧ OS A m c 5 1 (bs'.map (.int .u8)) E ∧ L' = [wgrp p A m c ((bits ++ bitsOf v n).length : Nat), E]) := by
 refine callS Try.func164 rfl rfl (fun w0 => ?_); refine s_seq (s_region ?_); refine o_val rfl rfl rfl (y_assign (v := (.int _ _)) rfl) (o_nil ?_); refine s_join (γ := Unit) (fun u => [(0, .pointer (some ⟨p, 0, none⟩)), (1, .int .u64 v), (2, .int .i64 n)]) (fun u => [wgrp p A m c bits.length, E]) (fun u => True) ?_ ?_
 ·refine s_seq (s_region ?_); refine o_val rfl rfl rfl (y_move (v := (.int _ _)) rfl) ?_; refine o_split rfl rfl rfl (y_lss rfl rfl) (fun p1 => ?_) (fun p2 => ?_)
  ·exfalso; omega
  ·refine o_val rfl rfl rfl (y_move (v := (.bool _)) rfl) ?_; refine o_guard_yes rfl rfl ?_; refine o_val rfl rfl rfl (y_move (v := (.int _ _)) rfl) ?_; refine o_guard_yes rfl rfl ?_; refine o_split rfl rfl rfl (y_gtr rfl rfl) (fun p3 => ?_) (fun p4 => ?_)
   ·exfalso; omega
   ·refine o_val rfl rfl rfl (y_pick_f (v := (.bool _)) rfl rfl) ?_; refine o_val rfl rfl rfl (y_move (v := (.bool _)) rfl) ?_; refine o_guard_yes rfl rfl ?_; refine o_val rfl rfl rfl (y_move (v := (.int _ _)) rfl) ?_; refine o_guard_yes rfl rfl ?_; refine o_split rfl rfl rfl (y_lss rfl rfl) (fun p5 => ?_) (fun p6 => ?_)
    ·refine o_guard_yes rfl rfl ?_; refine o_val rfl rfl rfl (y_move (v := (.bool _)) rfl) ?_; refine o_guard_yes rfl rfl ?_; refine o_val rfl rfl rfl (y_move (v := (.int _ _)) rfl) ?_; refine o_guard_yes rfl rfl ?_; refine o_val rfl rfl rfl (y_move (v := (.int _ _)) rfl) ?_; refine o_guard_yes rfl rfl ?_; refine o_val rfl rfl rfl (y_shr rfl rfl (by omega)) ?_; refine o_guard_yes rfl rfl ?_; refine o_split rfl rfl rfl (y_neq rfl rfl) (fun p7 => ?_) (fun p8 => ?_)
     ·exact absurd (shr_none hv.1 hn (hvn (by omega))) p7
     ·refine o_guard_yes rfl rfl ?_; refine o_val rfl rfl rfl (y_pick_t (v := (.bool _)) rfl rfl) ?_; refine o_val rfl rfl rfl (y_pick_f (v := (.bool _)) rfl rfl) (o_nil ?_); refine s_else rfl ?_; refine s_skip ?_; exact ⟨(), trivial, ⟨rfl, rfl, rfl, trivial⟩, sub_front ⟨_, rfl⟩⟩
    ·refine o_guard_yes rfl rfl ?_; refine o_val rfl rfl rfl (y_move (v := (.bool _)) rfl) ?_; refine o_guard_no rfl rfl rfl rfl rfl ?_; refine o_guard_no rfl rfl rfl rfl rfl ?_; refine o_guard_no rfl rfl rfl rfl rfl ?_; refine o_guard_no rfl rfl rfl rfl rfl ?_; refine o_guard_yes rfl rfl ?_; refine o_val rfl rfl rfl (y_pick_f (v := (.bool _)) rfl rfl) ?_; refine o_val rfl rfl rfl (y_pick_f (v := (.bool _)) rfl rfl) (o_nil ?_); refine s_else rfl ?_; refine s_skip ?_; exact ⟨(), trivial, ⟨rfl, rfl, rfl, trivial⟩, sub_front ⟨_, rfl⟩⟩
 ·intro u _f hI; refine s_seq ?_; refine s_seq (s_region ?_); refine o_val rfl rfl rfl (y_move (v := (.pointer _)) rfl) ?_; refine o_val rfl rfl rfl (y_nilCheck rfl) ?_; refine o_val rfl rfl rfl (y_field0 Try.runUnderlying266 rfl Try.sizeOf3 rfl rfl) ?_; refine o_val rfl rfl rfl (y_load Try.isAgg3 rfl (cel_own 0 rfl rfl)) ?_; refine o_val rfl rfl rfl (y_move (v := (.int _ _)) rfl) ?_; refine o_val rfl rfl rfl (y_add rfl rfl (by simp only [inK]; omega)) ?_; refine o_val rfl rfl rfl (y_gtr rfl rfl) (o_nil ?_); refine s_if rfl (fun h9 => ?_) (fun h10 => ?_)
  ·exfalso; omega
  ·refine s_skip ?_; refine s_seq ?_; refine s_seq (s_region ?_); refine o_val rfl rfl rfl (y_move (v := (.int _ _)) rfl) ?_; refine o_val rfl rfl rfl (y_move (v := (.int _ _)) rfl) (o_nil ?_); refine s_block ?_; refine s_loop (γ := G1 × List Int) (fun g => [(0, .pointer (some ⟨p, 0, none⟩)), (1, .int .u64 v), (2, .int .i64 n), (31, .int .i64 n), (32, .int .i64 g.1.i)]) (fun g => [wgrp p g.1.A g.1.n g.1.c (bits.length + g.1.i : Nat), g.1.E]) (fun g => g.1.i ≤ n ∧ Wr g.2 (bits ++ bitsOf v g.1.i) ∧ OS g.1.A g.1.n g.1.c 5 1 (g.2.map (.int .u8)) g.1.E) (fun g => n - g.1.i) ((G1.mk 0 A m c E, bs)) ?_ ⟨rfl, rfl, rfl, rfl, rfl, trivial⟩ (sub_front ⟨_, rfl⟩) ?_
   ·exact ⟨Nat.zero_le _, by rw [bitsOf_zero, List.append_nil]; exact hW, hos⟩
   ·intro g _f hI; obtain ⟨hi, hW1, hos1⟩ := hI; have hl1 : (bits ++ bitsOf v g.1.i).length = bits.length + g.1.i := by rw [List.length_append, bitsOf_len]
    refine s_seq (s_region ?_); refine o_val rfl rfl rfl (y_lss rfl rfl) (o_nil ?_); refine s_seq ?_; refine s_if rfl (fun h11 => ?_) (fun h12 => ?_)
    ·refine s_skip ?_; refine s_seq ?_; refine s_block ?_; refine s_seq (s_region ?_); refine o_val rfl rfl rfl (y_move (v := (.int _ _)) rfl) ?_; refine o_val rfl rfl rfl (y_assign (v := (.int _ _)) rfl) (o_nil ?_); refine s_join (γ := G1) (fun q => [(0, .pointer (some ⟨p, 0, none⟩)), (1, .int .u64 v), (2, .int .i64 n), (7, .int .i64 g.1.i), (31, .int .i64 n), (32, .int .i64 g.1.i)]) (fun q => [wgrp p q.A q.n q.c (bits.length + g.1.i : Nat), q.E]) (fun q => OS q.A q.n q.c 5 1 ((room g.2 (bits.length + g.1.i)).map (.int .u8)) q.E) ?_ ?_
     ·refine s_seq (s_region ?_); refine o_val rfl rfl rfl (y_move (v := (.pointer _)) rfl) ?_; refine o_val rfl rfl rfl (y_nilCheck rfl) ?_; refine o_val rfl rfl rfl (y_field0 Try.runUnderlying266 rfl Try.sizeOf3 rfl rfl) ?_; refine o_val rfl rfl rfl (y_load Try.isAgg3 rfl (cel_own 0 rfl rfl)) ?_; refine o_val rfl rfl rfl (y_rem rfl rfl (by omega)) ?_; refine o_val rfl rfl rfl (y_eql rfl rfl) (o_nil ?_); refine s_if rfl (fun h13 => ?_) (fun h14 => ?_)
      ·refine s_region ?_; refine o_val rfl rfl rfl (y_move (v := (.pointer _)) rfl) ?_; refine o_val rfl rfl rfl (y_move (v := (.pointer _)) rfl) ?_; refine o_val rfl rfl rfl (y_nilCheck rfl) ?_; refine o_val rfl rfl rfl (y_field0 Try.runUnderlying266 rfl Try.sizeOf76 rfl rfl) ?_; refine o_val rfl rfl rfl (y_load Try.isAgg76 rfl (cel_own 0 rfl rfl)) ?_; refine o_lit (vs := [(0, .int _ _)]) rfl rfl (Put_k0 _) (fun b15 => ?_); refine o_append (sz := 1) (bytes := 1) (news := [(.int _ _)]) 1 rfl Try.underlying76 Try.type5 rfl rfl rfl rfl rfl hos1 rfl rfl (Src.slice Try.underlying76 (cels_own 2 rfl rfl) rfl (by simp [Value.oneCell']) (by simp)) (by have h1 := hos1.len; have h2 := hW1.1; rw [hl1] at h2; simp at h1; omega) (fun A16 c17 E18 ho19 hn20 => ?_); have ho21 : OS A16 (g.1.n + 1) c17 5 1 ((room g.2 (bits.length + g.1.i)).map (.int .u8)) E18 := by rw [room_yes (by omega), ← map_one]; exact ho19
       clear ho19
       refine o_val rfl rfl rfl (y_nilCheck rfl) ?_; refine o_val rfl rfl rfl (y_field0 Try.runUnderlying266 rfl Try.sizeOf76 rfl rfl) ?_; refine o_store (v := (.slice _ _ _)) 0 rfl Try.sizeOf76 rfl rfl rfl rfl (o_nil ?_); exact ⟨(G1.mk 0 A16 (g.1.n + 1) c17 E18), ho21, ⟨rfl, rfl, rfl, rfl, rfl, rfl, trivial⟩, sub_front ⟨_, rfl⟩⟩
      ·refine s_skip ?_; exact ⟨(G1.mk 0 g.1.A g.1.n g.1.c g.1.E), (by rw [room_no (by omega)]; exact hos1), ⟨rfl, rfl, rfl, rfl, rfl, rfl, trivial⟩, sub_front ⟨_, rfl⟩⟩
     ·intro q _f hoq; have hrl := hW1.roomLen; rw [hl1] at hrl; have hqn := hoq.len; simp only [List.length_map, hrl] at hqn; refine s_seq ?_; refine s_tail 24 (by kernel_rfl) (by kernel_rfl) ?_; refine t_val rfl rfl rfl (y_move (v := (.pointer _)) rfl) ?_; refine t_val rfl rfl rfl (y_nilCheck rfl) ?_; refine t_val rfl rfl rfl (y_field0 Try.runUnderlying266 rfl Try.sizeOf76 rfl rfl) ?_; refine t_val rfl rfl rfl (y_load Try.isAgg76 rfl (cel_own 0 rfl rfl)) ?_; refine t_val rfl rfl rfl (y_move (v := (.pointer _)) rfl) ?_; refine t_val rfl rfl rfl (y_nilCheck rfl) ?_; refine t_val rfl rfl rfl (y_field0 Try.runUnderlying266 rfl Try.sizeOf3 rfl rfl) ?_; refine t_val rfl rfl rfl (y_load Try.isAgg3 rfl (cel_own 0 rfl rfl)) ?_; refine t_val rfl rfl rfl (y_quo rfl rfl (by simp only [inK]; omega)) ?_; refine t_val rfl rfl rfl (y_index1 Try.runUnderlying76 Try.sizeOf5 (hoq.some_of (by omega)) rfl rfl (by omega)) ?_; refine t_val rfl rfl rfl (y_load Try.isAgg5 rfl (cel_int (hoq.cels (j := 1) rfl) (by rw [hrl]; omega))) ?_; refine t_val rfl rfl rfl (y_move (v := (.int _ _)) rfl) ?_; refine t_val rfl rfl rfl (y_move (v := (.int _ _)) rfl) ?_; refine t_val rfl rfl rfl (y_shr rfl rfl (by omega)) ?_; refine t_val rfl rfl rfl (y_and rfl rfl) ?_; refine t_val rfl rfl rfl (y_conv' Try.runUnderlying86 Try.runUnderlying5 rfl) ?_; refine t_val rfl rfl rfl (y_move (v := (.pointer _)) rfl) ?_; refine t_val rfl rfl rfl (y_nilCheck rfl) ?_; refine t_val rfl rfl rfl (y_field0 Try.runUnderlying266 rfl Try.sizeOf3 rfl rfl) ?_; refine t_val rfl rfl rfl (y_load Try.isAgg3 rfl (cel_own 0 rfl rfl)) ?_; refine t_val rfl rfl rfl (y_rem rfl rfl (by omega)) ?_; refine t_val rfl rfl rfl (y_shl rfl rfl (by omega)) ?_; refine t_val rfl rfl rfl (y_or rfl rfl) ?_; refine t_val rfl rfl rfl (y_index1 Try.runUnderlying76 Try.sizeOf5 (hoq.some_of (by omega)) rfl rfl (by omega)) ?_; refine t_nil ?_; refine o_store_os (vs := [(.int _ _)]) 1 rfl hoq Try.sizeOf5 rfl rfl rfl (by simp [Value.oneCell']) (by simp) (by simp [hrl] <;> omega) (fun E22 ho23 => ?_); have ho24 := os_lay_int ho23 (by simp [hrl] <;> omega)
      clear ho23
      refine o_nil ?_; refine s_region ?_; refine o_val rfl rfl rfl (y_move (v := (.pointer _)) rfl) ?_; refine o_val rfl rfl rfl (y_nilCheck rfl) ?_; refine o_val rfl rfl rfl (y_field0 Try.runUnderlying266 rfl Try.sizeOf3 rfl rfl) ?_; refine o_val rfl rfl rfl (y_load Try.isAgg3 rfl (cel_own 0 rfl rfl)) ?_; refine o_val rfl rfl rfl (y_add rfl rfl (by simp only [inK]; omega)) ?_; refine o_val rfl rfl rfl (y_nilCheck rfl) ?_; refine o_val rfl rfl rfl (y_field0 Try.runUnderlying266 rfl Try.sizeOf3 rfl rfl) ?_; refine o_store (v := (.int _ _)) 0 rfl Try.sizeOf3 rfl rfl rfl rfl (o_nil ?_); refine s_region ?_; refine o_val rfl rfl rfl (y_add rfl rfl (by simp only [inK]; omega)) ?_; refine o_val rfl rfl rfl (y_move (v := (.int _ _)) rfl) (o_nil ?_); exact ⟨(G1.mk (g.1.i + 1) q.A q.n q.c E22, _), (by first | omega | (dsimp only; omega)), ⟨by show g.1.i + 1 ≤ n; omega, put_step hW1 hv (by omega), ho24⟩, ⟨rfl, rfl, rfl, rfl, (congrArg (Value.int _) (by show (g.1.i : Int) + 1 = ((g.1.i + 1 : Nat) : Int); omega)), trivial⟩, sub_front ⟨_, rfl⟩⟩
    ·refine s_exit ?_; refine s_seq (s_region ?_); refine o_val rfl rfl rfl (y_assign (v := (.int _ _)) rfl) (o_nil ?_); refine s_ret ?_; have hin : g.1.i = n := by omega
     rw [hin] at hW1 hl1; exact ⟨_, _, res1 rfl rfl, ⟨rfl, _, _, _, _, _, hW1, hos1, by rw [hl1, ← hin]⟩, sub_front ⟨_, rfl⟩⟩

end Go.Proofs.Ytacmbiohjiogiaa.K
end
section
set_option linter.unusedVariables false
set_option linter.unusedSimpArgs false
set_option maxRecDepth 100000
namespace Go.Proofs.Ytacmbiohjiogiaa.K
open Go.RowKit

structure Inp where
 k : Int
 x : Int
 y : Int
instance : Inhabited Inp := ⟨⟨0, 0, 0⟩⟩
instance : DecidableEq Inp := fun a b => decidable_of_iff (a.k = b.k ∧ a.x = b.x ∧ a.y = b.y) ⟨fun ⟨h1, h2, h3⟩ => by cases a; cases b; simp_all, fun h => by subst h; exact ⟨rfl, rfl, rfl⟩⟩
def Inp.ok (i : Inp) : Prop := okIn i.k i.x i.y
instance (i : Inp) : Decidable i.ok := by unfold Inp.ok; infer_instance
/-- Is a frame one for so many players? -/
def okFr (p : Int) (l : List Inp) : Prop := 1 ≤ p ∧ p ≤ 8 ∧ (l.length : Int) = p ∧ ∀ i ∈ l, i.ok
instance (p : Int) (l : List Inp) : Decidable (okFr p l) := by unfold okFr; infer_instance
end Go.Proofs.Ytacmbiohjiogiaa.K
end
section
set_option linter.unusedVariables false
set_option linter.unusedSimpArgs false
set_option maxRecDepth 100000
namespace Go.Proofs.Ytacmbiohjiogiaa.K
open Go.RowKit

theorem Bytes_c (p : Nat) (A : Option Addr) (m c : Nat) (E : Grp) (bs : List Int) (k : Int) (hos : OS A m c 5 1 (bs.map (.int .u8)) E) (hb : m ≤ 140737488355328) (V : Mem) :
  CallS Try.prog 168 [.pointer (some ⟨p, 0, none⟩)].toArray V [wgrp p A m c k, E]
   (fun r L' => ∃ B e G, r = .slice B m e ∧ OS B m e 5 1 (bs.map (.int .u8)) G ∧ L' = [wgrp p A m c k, E, G]) := by
 refine callS Try.func168 rfl rfl (fun w0 => ?_); refine s_seq (s_region ?_); refine o_val rfl rfl rfl (y_assign (v := (.slice _ _ _)) rfl) (o_nil ?_); refine s_seq (s_region ?_); refine o_val rfl rfl rfl (y_move (v := (.pointer _)) rfl) ?_; refine o_val rfl rfl rfl (y_nilCheck rfl) ?_; refine o_val rfl rfl rfl (y_field0 Try.runUnderlying266 rfl Try.sizeOf76 rfl rfl) ?_; refine o_val rfl rfl rfl (y_load Try.isAgg76 rfl (cel_own 0 rfl rfl)) ?_; refine o_newgroup ?_; refine o_append (sz := 1) (bytes := 1) (news := _) 2 rfl Try.underlying76 Try.type5 rfl rfl rfl rfl rfl (OS.nil 5 1) rfl rfl (Src.own (sz := 0) Try.underlying76 (j := 1) rfl hos (one_int _ _)) (by omega) (fun A2 c3 E4 ho5 hn6 => ?_); have ho7 : OS A2 m c3 5 1 (bs.map (.int .u8)) E4 := by simpa using ho5
 clear ho5
 refine o_val rfl rfl rfl (y_assign (v := (.slice _ _ _)) rfl) (o_nil ?_); refine s_ret ?_; exact ⟨_, _, res1 rfl rfl, ⟨A2, c3, E4, congrArg (fun k => Value.slice A2 k c3) (Nat.zero_add m), ho7, rfl⟩, sub_front ⟨_, rfl⟩⟩

end Go.Proofs.Ytacmbiohjiogiaa.K
end
section
namespace Go.Proofs.Ytacmbiohjiogiaa.K
open Go.RowKit

theorem getD_app_l {α : Type} {a b : List α} {d : α} {i : Nat} (h : i < a.length) : (a ++ b).getD i d = a.getD i d := by simp [List.getD_eq_getElem?_getD, List.getElem?_append_left h]
theorem getD_app_r {α : Type} {a b : List α} {d : α} {i : Nat} : (a ++ b).getD (a.length + i) d = b.getD i d := by simp [List.getD_eq_getElem?_getD, List.getElem?_append_right]
theorem bitsOf_getD {v : Int} {n i : Nat} (h : i < n) : (bitsOf v n).getD i false = v.toNat.testBit i := by
 simp [bitsOf, List.getD_eq_getElem?_getD, h]
theorem Wr.bit {bs : List Int} {bits : List Bool} (h : Wr bs bits) {j : Nat} (hj : j < 8 * bs.length) : bitAt bs j = bits.getD j false := by
 have := h.2.2 (j / 8) (j % 8) (by omega) (Nat.mod_lt _ (by omega)); rw [show 8 * (j / 8) + j % 8 = j by omega] at this; exact this
end Go.Proofs.Ytacmbiohjiogiaa.K
end
section
namespace Go.Proofs.Ytacmbiohjiogiaa.K
open Go.RowKit

/-- How many groups of four bits a number takes. -/
def isGrp (v g : Nat) : Prop := 1 ≤ g ∧ v / 16 ^ g = 0 ∧ ∀ j, 1 ≤ j → j < g → v / 16 ^ j ≠ 0
theorem isGrp_unique {v g g' : Nat} (h : isGrp v g) (h' : isGrp v g') : g = g' := by
 rcases Nat.lt_trichotomy g g' with hl | hl | hl
 ·exact absurd h.2.1 (h'.2.2 g h.1 hl)
 ·exact hl
 ·exact absurd h'.2.1 (h.2.2 g' h'.1 hl)
def grp (v : Nat) : Nat := if v < 16 then 1 else grp (v / 16) + 1
termination_by v
decreasing_by omega
theorem div_pow16 (v i : Nat) : v / 16 ^ (i + 1) = v / 16 / 16 ^ i := by rw [Nat.pow_succ, Nat.mul_comm, Nat.div_div_eq_div_mul]
theorem grp_is (v : Nat) : isGrp v (grp v) := by
 induction v using Nat.strongRecOn with
 | _ v ih =>
  unfold grp
  split
  ·rename_i h; exact ⟨Nat.le_refl _, by rw [Nat.pow_one]; omega, fun j h1 h2 => by omega⟩
  ·rename_i h
   obtain ⟨h1, h2, h3⟩ := ih (v / 16) (by omega); refine ⟨by omega, by rw [div_pow16]; exact h2, fun j hj1 hj2 => ?_⟩; obtain ⟨i, rfl⟩ : ∃ i, j = i + 1 := ⟨j - 1, by omega⟩; rw [div_pow16]
   by_cases hi : i = 0
   ·subst hi; rw [Nat.pow_zero, Nat.div_one]; omega
   ·exact h3 i (by omega) (by omega)
theorem div16_zero {v i : Nat} (hv : v < 18446744073709551616) (hi : 16 ≤ i) : v / 16 ^ i = 0 := by
 apply Nat.div_eq_of_lt
 exact Nat.lt_of_lt_of_le hv (by have := Nat.pow_le_pow_right (show 0 < 16 by omega) hi; exact Nat.le_trans (by decide) this)
theorem grp_le {v : Nat} (hv : v < 18446744073709551616) : 1 ≤ grp v ∧ grp v ≤ 16 := by
 obtain ⟨h1, h2, h3⟩ := grp_is v; refine ⟨h1, ?_⟩
 by_cases h : grp v ≤ 16
 ·exact h
 ·exact absurd (div16_zero hv (Nat.le_refl 16)) (h3 16 (by omega) (by omega))
/-- The first groups of a number. -/
def natBits (v g : Nat) : List Bool := (List.range g).flatMap fun i => bitsOf (v / 16 ^ i : Nat) 4 ++ [decide (v / 16 ^ (i + 1) ≠ 0)]
theorem natBits_zero (v : Nat) : natBits v 0 = [] := rfl
theorem natBits_succ (v g : Nat) : natBits v (g + 1) = natBits v g ++ (bitsOf (v / 16 ^ g : Nat) 4 ++ [decide (v / 16 ^ (g + 1) ≠ 0)]) := by simp [natBits, List.range_succ]
theorem natBits_len (v : Nat) : ∀ g, (natBits v g).length = 5 * g
 | 0 => rfl
 | g + 1 => by rw [natBits_succ, List.length_append, natBits_len v g]; simp [bitsOf_len]; omega
def natB (v : Nat) : List Bool := natBits v (grp v)
theorem natB_len (v : Nat) : (natB v).length = 5 * grp v := natBits_len v _
theorem natB_bd {v : Nat} (hv : v < 18446744073709551616) : 5 ≤ (natB v).length ∧ (natB v).length ≤ 80 := by
 have := grp_le hv; rw [natB_len]; omega
theorem shr16 (v i : Nat) : (v : Int).fdiv (2 ^ (min ((4 * (i : Int)).toNat) 64)) = if i ≤ 16 then ((v / 16 ^ i : Nat) : Int) else (v : Int).fdiv (2 ^ 64) := by
 by_cases h : i ≤ 16
 ·rw [if_pos h, show min (4 * (i : Int)).toNat 64 = 4 * i by omega, Int.fdiv_eq_ediv_of_nonneg _ (Int.le_of_lt (Int.pow_pos (by omega))), show (16 : Nat) = 2 ^ 4 from rfl, ← Nat.pow_mul]; simp
 ·rw [if_neg h, show min (4 * (i : Int)).toNat 64 = 64 by omega]
theorem shr4 (v : Nat) : (v : Int).fdiv (2 ^ (min ((4 : Int).toNat) 64)) = ((v / 16 : Nat) : Int) := by
 have := shr16 v 1
 simpa using this
theorem and15 {a : Nat} (ha : a < 18446744073709551616) : bAnd .u64 (a : Int) 15 = ((a % 16 : Nat) : Int) := by
 unfold bAnd; have h1 := ofInt_toNat 64 (a : Int) (by omega) (by omega); have h2 := ofInt_toNat 64 15 (by omega) (by omega); rw [show IntKind.u64.bits = 64 from rfl, BitVec.toNat_and, h1, h2, show (15 : Int).toNat = 2 ^ 4 - 1 from rfl, Nat.and_two_pow_sub_one_eq_mod, Int.toNat_natCast]; exact wrap_in (k := .u64) (by simp only [inK]; omega)
theorem div_le16 {v : Nat} (hv : v < 18446744073709551616) (i : Nat) : v / 16 ^ i < 18446744073709551616 := Nat.lt_of_le_of_lt (Nat.div_le_self _ _) hv
theorem or16 {a : Nat} (ha : a < 16) : bOr .u64 (a : Int) 16 = ((a + 16 : Nat) : Int) := by
 rw [bOr_u64 (by omega) (by omega), Int.toNat_natCast]; have := Nat.two_pow_add_eq_or_of_lt (show a < 2 ^ 4 from ha) 1; rw [Nat.mul_one] at this; rw [show (16 : Int).toNat = 2 ^ 4 from rfl, Nat.or_comm, ← this, Nat.add_comm]
theorem or0 {a : Nat} (ha : a < 16) : bOr .u64 (a : Int) 0 = (a : Int) := by
 rw [bOr_u64 (by omega) (by omega), Int.toNat_natCast]; simp
theorem nib1 {v i : Nat} (hv : v < 18446744073709551616) (hi : i ≤ 16) : bOr .u64 (bAnd .u64 ((v : Int).fdiv (2 ^ (min ((4 * (i : Int)).toNat) 64))) 15) 16 = ((v / 16 ^ i % 16 + 16 : Nat) : Int) := by
 rw [shr16, if_pos hi, and15 (div_le16 hv i), or16 (Nat.mod_lt _ (by omega))]
theorem nib0 {v i : Nat} (hv : v < 18446744073709551616) (hi : i ≤ 16) : bOr .u64 (bAnd .u64 ((v : Int).fdiv (2 ^ (min ((4 * (i : Int)).toNat) 64))) 15) 0 = ((v / 16 ^ i % 16 : Nat) : Int) := by
 rw [shr16, if_pos hi, and15 (div_le16 hv i), or0 (Nat.mod_lt _ (by omega))]
theorem bits5 (a : Nat) : bitsOf ((a % 16 : Nat) : Int) 5 = bitsOf (a : Int) 4 ++ [false] := by
 rw [bitsOf_succ]
 congr 1
 ·unfold bitsOf
  apply List.map_congr_left
  intro i hi; have hi4 : i < 4 := List.mem_range.1 hi; rw [Int.toNat_natCast, Int.toNat_natCast, show (16 : Nat) = 2 ^ 4 from rfl, Nat.testBit_mod_two_pow]; simp [hi4]
 ·rw [Int.toNat_natCast, Nat.testBit_lt_two_pow (i := 4) (Nat.mod_lt _ (by omega))]
theorem bits5' (a : Nat) : bitsOf ((a % 16 + 16 : Nat) : Int) 5 = bitsOf (a : Int) 4 ++ [true] := by
 have e : a % 16 + 16 = 2 ^ 4 * 1 + a % 16 := by omega
 rw [bitsOf_succ]
 congr 1
 ·unfold bitsOf
  apply List.map_congr_left
  intro i hi; have hi4 : i < 4 := List.mem_range.1 hi; rw [Int.toNat_natCast, Int.toNat_natCast, e, Nat.testBit_two_pow_mul_add _ (Nat.mod_lt _ (by omega)), if_pos hi4, Nat.testBit_mod_two_pow (j := 4)]; simp [hi4]
 ·rw [Int.toNat_natCast, e, Nat.testBit_two_pow_mul_add _ (Nat.mod_lt _ (by omega)), if_neg (by omega)]; rfl
/-- One more group, as the writer writes it. -/
theorem nat_more {v g i : Nat} (h : isGrp v g) (hi : i + 1 < g) : natBits v i ++ bitsOf ((v / 16 ^ i % 16 + 16 : Nat) : Int) 5 = natBits v (i + 1) := by
 rw [natBits_succ, bits5', decide_eq_true (h.2.2 (i + 1) (by omega) hi)]
theorem nat_last {v g i : Nat} (h : isGrp v g) (hi : i < g) (hi' : ¬ i + 1 < g) : natBits v i ++ bitsOf ((v / 16 ^ i % 16 : Nat) : Int) 5 = natBits v (i + 1) := by
 have e : i + 1 = g := by omega
 rw [natBits_succ, bits5, decide_eq_false (by rw [e]; exact fun hh => hh h.2.1)]
/-- A signed number as one without a sign. -/
def zz (d : Int) : Nat := if 0 ≤ d then (2 * d).toNat else (-2 * d - 1).toNat
theorem zz_lt {d : Int} (h : inK .i64 d) : zz d < 18446744073709551616 := by
 unfold zz; simp only [inK] at h; split <;> omega
theorem xor_ones {a : Nat} (ha : a < 18446744073709551616) : bXor .u64 (a : Int) 18446744073709551615 = ((18446744073709551615 - a : Nat) : Int) := by
 unfold bXor; rw [show IntKind.u64.bits = 64 from rfl]; have h1 : BitVec.ofInt 64 18446744073709551615 = BitVec.allOnes 64 := by decide
 have h2 : (BitVec.ofInt 64 (a : Int)).toNat = a := by rw [ofInt_toNat 64 (a : Int) (by omega) (by omega), Int.toNat_natCast]
 rw [h1, BitVec.xor_allOnes, BitVec.toNat_not, h2]; rw [show 2 ^ 64 - 1 - a = 18446744073709551615 - a by omega]; exact wrap_in (k := .u64) (by simp only [inK]; omega)
theorem xor_zero64 {a : Nat} (ha : a < 18446744073709551616) : bXor .u64 (a : Int) 0 = (a : Int) := by
 unfold bXor; rw [show IntKind.u64.bits = 64 from rfl]; have h2 : (BitVec.ofInt 64 (a : Int)).toNat = a := by rw [ofInt_toNat 64 (a : Int) (by omega) (by omega), Int.toNat_natCast]
 rw [show BitVec.ofInt 64 0 = 0#64 by decide, BitVec.xor_zero, h2]; exact wrap_in (k := .u64) (by simp only [inK]; omega)
theorem wrap_u64 (n : Int) : IntKind.u64.wrap n = n % 18446744073709551616 := by
 simp [IntKind.wrap, IntKind.signed, IntKind.bits]
theorem zz_writer {d : Int} (h : inK .i64 d) : bXor .u64 (IntKind.u64.wrap (IntKind.u64.wrap d * 2 ^ (min ((1 : Int).toNat) 64))) (IntKind.u64.wrap (d.fdiv (2 ^ (min ((63 : Int).toNat) 64)))) = (zz d : Int) := by
 simp only [inK] at h; rw [show min (1 : Int).toNat 64 = 1 from rfl, show min (63 : Int).toNat 64 = 63 from rfl, wrap_u64, wrap_u64, wrap_u64, Int.fdiv_eq_ediv_of_nonneg _ (by decide)]; unfold zz
 by_cases h0 : 0 ≤ d
 ·rw [if_pos h0, show d / 2 ^ 63 = 0 by omega, Int.zero_emod]; have e : d % 18446744073709551616 * 2 ^ 1 % 18446744073709551616 = (((2 * d).toNat : Nat) : Int) := by omega
  rw [e, xor_zero64 (by omega)]
 ·rw [if_neg h0, show d / 2 ^ 63 = -1 by omega, show (-1 : Int) % 18446744073709551616 = 18446744073709551615 by decide]; have e : d % 18446744073709551616 * 2 ^ 1 % 18446744073709551616 = (((2 * d + 18446744073709551616).toNat : Nat) : Int) := by omega
  rw [e, xor_ones (by omega)]; omega
end Go.Proofs.Ytacmbiohjiogiaa.K
end
section
namespace Go.Proofs.Ytacmbiohjiogiaa.K
open Go.RowKit

/-- A writer takes what fits whole, or nothing. -/
def wE (bits x : List Bool) : Int := if 524288 < bits.length + x.length then 6 else 0
def wB (bits x : List Bool) : List Bool := if 524288 < bits.length + x.length then bits else bits ++ x
/-- What a list has at a place, or 0. -/
def base (xs : List Int) (i : Nat) : Int := xs.getD i 0
def dd (old new : List Int) (i : Nat) : Int := IntKind.i64.wrap (new.getD i 0 - base old i)
theorem dd_in (old new : List Int) (i : Nat) : inK .i64 (dd old new i) := inK_wrap _ _
/-- How many are equal since the last that was not, and the bits of those before. -/
def dRun (old new : List Int) : Nat → Nat
 | 0 => 0
 | k + 1 => if new.getD k 0 = base old k then dRun old new k + 1 else 0
def dBits (old new : List Int) : Nat → List Bool
 | 0 => []
 | k + 1 => if new.getD k 0 = base old k then dBits old new k else dBits old new k ++ natB (dRun old new k) ++ natB (zz (dd old new k))
theorem dRun_le (old new : List Int) : ∀ k, dRun old new k ≤ k
 | 0 => Nat.le_refl _
 | k + 1 => by simp only [dRun]; have := dRun_le old new k; split <;> omega
def dHead (s1 s2 : Int) (n : Nat) : List Bool := bitsOf s1 64 ++ bitsOf s2 64 ++ natB n
def dTail (old new : List Int) (k : Nat) : List Bool := if 0 < dRun old new k then natB (dRun old new k) else []
/-- The whole difference. -/
def dAll (s1 s2 : Int) (old new : List Int) : List Bool := dHead s1 s2 new.length ++ dBits old new new.length ++ dTail old new new.length
theorem dHead_len {s1 s2 : Int} {n : Nat} (hn : n < 18446744073709551616) : (dHead s1 s2 n).length ≤ 208 := by
 have := (natB_bd hn).2; simp only [dHead, List.length_append, bitsOf_len]; omega
/-- The writer's state: all that was to be written, or full. -/
def wOK (full : List Bool) (err : Int) (bits : List Bool) : Prop := bits.length ≤ 524288 ∧ ((err = 0 ∧ bits = full) ∨ (err = 6 ∧ 524288 < full.length))
theorem wOK_step {full bits x : List Bool} {err : Int} (h : wOK full err bits) : wOK (full ++ x) (max err (wE bits x)) (wB bits x) := by
 unfold wOK wE wB at *; rcases h with ⟨h0, ⟨rfl, rfl⟩ | ⟨rfl, h1⟩⟩
 ·by_cases hh : 524288 < bits.length + x.length
  ·rw [if_pos hh, if_pos hh]; exact ⟨h0, .inr ⟨by decide, by rw [List.length_append]; omega⟩⟩
  ·rw [if_neg hh, if_neg hh]; exact ⟨by rw [List.length_append]; omega, .inl ⟨by decide, rfl⟩⟩
 ·by_cases hh : 524288 < bits.length + x.length
  ·rw [if_pos hh, if_pos hh]; exact ⟨h0, .inr ⟨by decide, by rw [List.length_append]; omega⟩⟩
  ·rw [if_neg hh, if_neg hh]; exact ⟨by rw [List.length_append]; omega, .inr ⟨by decide, by rw [List.length_append]; omega⟩⟩
theorem wB_le {bits x : List Bool} (h : bits.length ≤ 524288) : (wB bits x).length ≤ 524288 := by
 unfold wB; split
 ·exact h
 ·rw [List.length_append]; omega
end Go.Proofs.Ytacmbiohjiogiaa.K
end
section
namespace Go.Proofs.Ytacmbiohjiogiaa.K
open Go.RowKit

/-- The bits that lie at a place. -/
def bitsAt (bs : List Int) (N p : Nat) (l : List Bool) : Prop := p + l.length ≤ N ∧ ∀ j, j < l.length → bitAt bs (p + j) = l.getD j false
theorem bitsAt_mid {bs : List Int} {N p : Nat} {a b c : List Bool} (h : bitsAt bs N p (a ++ b ++ c)) : bitsAt bs N (p + a.length) b := by
 obtain ⟨h1, h2⟩ := h; simp only [List.length_append] at h1; refine ⟨by omega, fun j hj => ?_⟩; have := h2 (a.length + j) (by simp only [List.length_append]; omega); rw [List.append_assoc, getD_app_r, getD_app_l hj] at this; rw [Nat.add_assoc]; exact this
theorem natBits_pre (v : Nat) {i : Nat} : ∀ {g : Nat}, i ≤ g → ∃ t, natBits v g = natBits v i ++ t
 | 0, h => ⟨[], by rw [show i = 0 by omega]; rfl⟩
 | g + 1, h => by
  by_cases e : i = g + 1
  ·exact ⟨[], by rw [e, List.append_nil]⟩
  ·obtain ⟨t, ht⟩ := natBits_pre v (show i ≤ g by omega); exact ⟨t ++ (bitsOf (v / 16 ^ g : Nat) 4 ++ [decide (v / 16 ^ (g + 1) ≠ 0)]), by rw [natBits_succ, ht, List.append_assoc]⟩
/-- The five bits of a group. -/
theorem num5 {bs : List Int} {N p w i : Nat} (h : bitsAt bs N p (natB w)) (hi : i < grp w) : (num bs (p + 5 * i) 5 : Nat) = w / 16 ^ i % 16 + (if w / 16 ^ (i + 1) ≠ 0 then 16 else 0) := by
 obtain ⟨t, ht⟩ := natBits_pre w (show i + 1 ≤ grp w from hi); unfold natB at h; rw [ht, natBits_succ] at h; have hm := bitsAt_mid h; rw [natBits_len] at hm
 by_cases hz : w / 16 ^ (i + 1) ≠ 0
 ·rw [if_pos hz]; rw [decide_eq_true hz, ← bits5'] at hm; have := num_of (bs := bs) (p := p + 5 * i) (k := 5) (v := ((w / 16 ^ i % 16 + 16 : Nat) : Int)) (by omega) (fun j hj => by rw [hm.2 j (by rw [bitsOf_len]; exact hj), bitsOf_getD hj])
  exact_mod_cast this
 ·rw [if_neg hz]; rw [decide_eq_false hz, ← bits5] at hm; have := num_of (bs := bs) (p := p + 5 * i) (k := 5) (v := ((w / 16 ^ i % 16 : Nat) : Int)) (by omega) (fun j hj => by rw [hm.2 j (by rw [bitsOf_len]; exact hj), bitsOf_getD hj]); rw [Nat.add_zero]
  exact_mod_cast this
theorem at_len {bs : List Int} {N p w i : Nat} (h : bitsAt bs N p (natB w)) (hi : i < grp w) : p + 5 * i + 5 ≤ N := by
 have := h.1; rw [natB_len] at this; omega
/-- What is read of the groups before place i. -/
def accOK (bs : List Int) (N p i : Nat) (acc : Int) : Prop := ∀ w, w < 18446744073709551616 → bitsAt bs N p (natB w) → i < grp w ∧ acc = (w % 16 ^ i : Nat)
theorem acc_zero (bs : List Int) (N p : Nat) : accOK bs N p 0 0 := fun w _ _ => ⟨(grp_is w).1, by rw [Nat.pow_zero, Nat.mod_one]; rfl⟩
theorem acc_val {w i : Nat} (hw : w < 18446744073709551616) (hi : i ≤ 15) {v5 : Nat} (hv : v5 = w / 16 ^ i % 16 + (if w / 16 ^ (i + 1) ≠ 0 then 16 else 0)) :
  bOr .u64 (w % 16 ^ i : Nat) (IntKind.u64.wrap (bAnd .u64 (v5 : Int) 15 * 2 ^ (min ((4 * (i : Int)).toNat) 64))) = (w % 16 ^ (i + 1) : Nat) := by
 have h5 : v5 < 32 := by rw [hv]; split <;> omega
 have h16 : v5 % 16 = w / 16 ^ i % 16 := by rw [hv]; split <;> omega
 rw [and15 (by omega), h16, show min (4 * (i : Int)).toNat 64 = 4 * i by omega]; have hp : 16 ^ i * 16 ≤ 18446744073709551616 := by
  have := Nat.pow_le_pow_right (show 0 < 16 by omega) (show i + 1 ≤ 16 by omega); rw [Nat.pow_succ] at this; exact Nat.le_trans this (by decide)
 have hd : w / 16 ^ i % 16 < 16 := Nat.mod_lt _ (by omega); have e16 : (2 : Nat) ^ (4 * i) = 16 ^ i := by rw [Nat.pow_mul]
 have hm : w % 16 ^ i < 16 ^ i := Nat.mod_lt _ (Nat.pow_pos (by omega)); have hq : w / 16 ^ i % 16 * 16 ^ i ≤ 15 * 16 ^ i := Nat.mul_le_mul_right _ (by omega); have e1 : ((w / 16 ^ i % 16 : Nat) : Int) * 2 ^ (4 * i) = ((w / 16 ^ i % 16 * 16 ^ i : Nat) : Int) := by rw [← e16]; simp
 rw [e1, wrap_in (k := .u64) (by simp only [inK]; generalize 16 ^ i = z at *; generalize w / z % 16 = q at *; omega)]; rw [bOr_u64 ⟨by omega, by generalize 16 ^ i = z at *; omega⟩ ⟨by omega, by generalize 16 ^ i = z at *; generalize w / z % 16 = q at *; omega⟩, Int.toNat_natCast, Int.toNat_natCast, Nat.mod_pow_succ]; have := Nat.two_pow_add_eq_or_of_lt (i := 4 * i) (b := w % 16 ^ i) (by rw [e16]; exact hm) (w / 16 ^ i % 16); rw [e16] at this; rw [Nat.or_comm, Nat.mul_comm, ← this, Nat.add_comm]
theorem acc_step {bs : List Int} {N p i : Nat} {acc : Int} (h : accOK bs N p i acc) (hi : i ≤ 15) (hN : ¬ N < p + 5 * i + 5) (hc : ¬ gv bs N (p + 5 * i) 5 < 16) :
  accOK bs N p (i + 1) (bOr .u64 acc (IntKind.u64.wrap (bAnd .u64 (gv bs N (p + 5 * i) 5) 15 * 2 ^ (min ((4 * (i : Int)).toNat) 64)))) := by
 intro w hw hb; obtain ⟨h1, h2⟩ := h w hw hb; have h5 := num5 hb h1; unfold gv at hc ⊢; rw [if_neg hN] at hc ⊢; rw [h2, acc_val hw hi h5]; refine ⟨?_, rfl⟩; have hz : w / 16 ^ (i + 1) ≠ 0 := by
  intro hz; rw [if_neg (fun hh => hh hz)] at h5; have : w / 16 ^ i % 16 < 16 := Nat.mod_lt _ (by omega); omega
 by_cases e : i + 1 = grp w
 ·rw [e] at hz; exact absurd (grp_is w).2.1 hz
 ·omega
/-- What a reader of numbers answers, where a number lies. -/
def natRd (bs : List Int) (N p : Nat) (v er : Int) (p' : Nat) : Prop := ∀ w, w < 18446744073709551616 → bitsAt bs N p (natB w) → er = 0 ∧ v = (w : Int) ∧ p' = p + (natB w).length
theorem acc_done {bs : List Int} {N p i : Nat} {acc : Int} (h : accOK bs N p i acc) (hi : i ≤ 15) (hN : ¬ N < p + 5 * i + 5) (hc : gv bs N (p + 5 * i) 5 < 16) :
  natRd bs N p (bOr .u64 acc (IntKind.u64.wrap (bAnd .u64 (gv bs N (p + 5 * i) 5) 15 * 2 ^ (min ((4 * (i : Int)).toNat) 64)))) 0 (p + 5 * i + 5) := by
 intro w hw hb; obtain ⟨h1, h2⟩ := h w hw hb; have h5 := num5 hb h1; unfold gv at hc ⊢; rw [if_neg hN] at hc ⊢; rw [h2, acc_val hw hi h5]; have hz : w / 16 ^ (i + 1) = 0 := by
  by_cases hz : w / 16 ^ (i + 1) = 0
  ·exact hz
  ·rw [if_pos hz] at h5; omega
 have e : grp w = i + 1 := isGrp_unique (grp_is w) ⟨by omega, hz, fun j hj1 hj2 => (grp_is w).2.2 j hj1 (by omega)⟩; refine ⟨rfl, ?_, by rw [natB_len, e]; omega⟩
 congr 1
 have := Nat.div_add_mod w (16 ^ (i + 1)); rw [hz] at this; omega
theorem acc_short {bs : List Int} {N p i : Nat} {acc v er : Int} {p' : Nat} (h : accOK bs N p i acc) (hN : N < p + 5 * i + 5) : natRd bs N p v er p' := by
 intro w hw hb; have := at_len hb (h w hw hb).1; omega
theorem acc_long {bs : List Int} {N p i : Nat} {acc v er : Int} {p' : Nat} (h : accOK bs N p i acc) (hi : i = 16) : natRd bs N p v er p' := by
 intro w hw hb; have h1 := (h w hw hb).1; have h2 := (grp_le hw).2; omega
theorem acc_nil {bs : List Int} {N p i : Nat} {acc v er : Int} {p' : Nat} (h : accOK bs N p i acc) (hN : ¬ N < p + 5 * i + 5) (h0 : gv bs N (p + 5 * i) 5 = 0) (hi : 0 < i) : natRd bs N p v er p' := by
 intro w hw hb; obtain ⟨h1, h2⟩ := h w hw hb; have h5 := num5 hb h1; unfold gv at h0; rw [if_neg hN] at h0
 exfalso
 have hz : w / 16 ^ (i + 1) = 0 := by
  by_cases hz : w / 16 ^ (i + 1) = 0
  ·exact hz
  ·rw [if_pos hz] at h5; omega
 rw [if_neg (fun hh => hh hz)] at h5; have h6 : w / 16 ^ i ≠ 0 := (grp_is w).2.2 i hi h1; have h7 : w / 16 ^ i / 16 = 0 := by rw [Nat.div_div_eq_div_mul, ← Nat.pow_succ]; exact hz
 omega
/-- A signed number, read. -/
theorem unzz {d : Int} (h : inK .i64 d) : IntKind.i64.wrap (bXor .u64 ((zz d : Int).fdiv (2 ^ (min ((1 : Int).toNat) 64))) (IntKind.u64.wrap (-(bAnd .u64 (zz d : Int) 1)))) = d := by
 have hz := zz_lt h; have hd := h; simp only [inK] at hd; rw [bAnd_one rfl ⟨by omega, by omega⟩, show min (1 : Int).toNat 64 = 1 from rfl, Int.fdiv_eq_ediv_of_nonneg _ (by decide), wrap_u64]; unfold zz at hz ⊢
 by_cases h0 : 0 ≤ d
 ·rw [if_pos h0] at hz ⊢; rw [show ((2 * d).toNat : Int) % 2 = 0 by omega, show -(0 : Int) % 18446744073709551616 = 0 by decide, show ((2 * d).toNat : Int) / 2 ^ 1 = ((d.toNat : Nat) : Int) by omega, xor_zero64 (by omega)]; rw [wrap_in (k := .i64) (by simp only [inK]; omega)]; omega
 ·rw [if_neg h0] at hz ⊢; rw [show ((-2 * d - 1).toNat : Int) % 2 = 1 by omega, show -(1 : Int) % 18446744073709551616 = 18446744073709551615 by decide, show ((-2 * d - 1).toNat : Int) / 2 ^ 1 = (((-d - 1).toNat : Nat) : Int) by omega, xor_ones (by omega)]; rw [IntKind.wrap_i64]; omega
end Go.Proofs.Ytacmbiohjiogiaa.K
end
section
namespace Go.Proofs.Ytacmbiohjiogiaa.K
open Go.RowKit

def intRd (bs : List Int) (N p : Nat) (v er : Int) (p' : Nat) : Prop := ∀ d, inK .i64 d → bitsAt bs N p (natB (zz d)) → er = 0 ∧ v = d ∧ p' = p + (natB (zz d)).length
/-- The bits of a list behind the sums. -/
def full (old ys : List Int) : List Bool := natB ys.length ++ dBits old ys ys.length ++ dTail old ys ys.length
/-- A list whose difference lies at a place. -/
def Good (bs : List Int) (N p : Nat) (old ys : List Int) : Prop := ys.length ≤ 65536 ∧ (∀ y ∈ ys, inK .i64 y) ∧ bitsAt bs N p (full old ys)
/-- Between two numbers of the difference. -/
def bodyI (bs : List Int) (N p : Nat) (old : List Int) (cnt : Int) (q : Nat) (zs : List Int) : Prop :=
 ∀ ys, Good bs N p old ys → cnt = ys.length ∧ zs.length ≤ ys.length ∧ dRun old ys zs.length = 0 ∧ q = p + (natB ys.length ++ dBits old ys zs.length).length ∧ zs = ys.take zs.length
/-- Behind the number of those that are equal, of which r are still to come. -/
def bodyK (bs : List Int) (N p : Nat) (old : List Int) (cnt : Int) (q : Nat) (zs : List Int) (r : Nat) : Prop :=
 ∀ ys, Good bs N p old ys → cnt = ys.length ∧ ∃ j, zs.length + r = j ∧ j ≤ ys.length ∧ zs = ys.take zs.length ∧ (∀ i, zs.length ≤ i → i < j → ys.getD i 0 = base old i) ∧
  (j < ys.length → bitsAt bs N q (natB (zz (dd old ys j))) ∧ dRun old ys (j + 1) = 0 ∧ q + (natB (zz (dd old ys j))).length = p + (natB ys.length ++ dBits old ys (j + 1)).length)
theorem run_from {old ys : List Int} {k : Nat} (h0 : dRun old ys k = 0) : ∀ j, k ≤ j → (∀ i, k ≤ i → i < j → ys.getD i 0 = base old i) → dRun old ys j = j - k ∧ dBits old ys j = dBits old ys k
 | 0, hj, _ => by rw [show k = 0 by omega]; exact ⟨rfl, rfl⟩
 | j + 1, hj, hs => by
  by_cases e : k = j + 1
  ·rw [← e]; exact ⟨by omega, rfl⟩
  ·obtain ⟨h1, h2⟩ := run_from h0 j (by omega) (fun i hi1 hi2 => hs i hi1 (by omega)); have hj2 := hs j (by omega) (by omega); simp only [dRun, dBits]; rw [if_pos hj2, if_pos hj2, h1, h2]; exact ⟨by omega, rfl⟩
theorem next_other (old ys : List Int) (n : Nat) : ∀ m k, n = k + m → ∃ j, k ≤ j ∧ j ≤ n ∧ (∀ i, k ≤ i → i < j → ys.getD i 0 = base old i) ∧ (j = n ∨ ¬ ys.getD j 0 = base old j)
 | 0, k, h => ⟨k, Nat.le_refl _, by omega, fun i h1 h2 => by omega, .inl (by omega)⟩
 | m + 1, k, h => by
  by_cases hs : ys.getD k 0 = base old k
  ·obtain ⟨j, h1, h2, h3, h4⟩ := next_other old ys n m (k + 1) (by omega); refine ⟨j, by omega, h2, fun i hi1 hi2 => ?_, h4⟩
   by_cases e : i = k
   ·rw [e]; exact hs
   ·exact h3 i (by omega) hi2
  ·exact ⟨k, Nat.le_refl _, by omega, fun i h1 h2 => by omega, .inr hs⟩
theorem dBits_pre (old ys : List Int) {j : Nat} : ∀ {k : Nat}, j ≤ k → ∃ t, dBits old ys k = dBits old ys j ++ t
 | 0, h => ⟨[], by rw [show j = 0 by omega, List.append_nil]⟩
 | k + 1, h => by
  by_cases e : j = k + 1
  ·exact ⟨[], by rw [e, List.append_nil]⟩
  ·obtain ⟨t, ht⟩ := dBits_pre old ys (show j ≤ k by omega); simp only [dBits]
   split
   ·exact ⟨t, ht⟩
   ·exact ⟨t ++ natB (dRun old ys k) ++ natB (zz (dd old ys k)), by rw [ht]; simp only [List.append_assoc]⟩
theorem body_start {bs : List Int} {N p : Nat} {old : List Int} {v er : Int} {q : Nat} (h : natRd bs N p v er q) : ∀ ys, Good bs N p old ys → er = 0 ∧ v = ys.length ∧ q = p + (natB ys.length).length := by
 intro ys hg; have hb := hg.2.2; unfold full at hb; rw [List.append_assoc] at hb; have := bitsAt_mid (a := []) (by rw [List.nil_append]; exact hb); exact h ys.length (by have := hg.1; omega) (by simpa using this)
theorem body_first {bs : List Int} {N p : Nat} {old : List Int} {v : Int} {q : Nat} (h : natRd bs N p v 0 q) : bodyI bs N p old v q [] := fun ys hg => by
 obtain ⟨_, h2, h3⟩ := body_start h ys hg; exact ⟨h2, Nat.zero_le _, rfl, by rw [h3]; simp [dBits], by simp⟩
theorem body_run {bs : List Int} {N p : Nat} {old : List Int} {cnt : Int} {q : Nat} {zs : List Int} {v er : Int} {q' : Nat} (h : bodyI bs N p old cnt q zs) (hlt : (zs.length : Int) < cnt) (hr : natRd bs N q v er q') :
  ∀ ys, Good bs N p old ys → er = 0 ∧ ∃ j : Nat, v = (j : Int) - zs.length ∧ zs.length ≤ j ∧ j ≤ ys.length ∧ (∀ i, zs.length ≤ i → i < j → ys.getD i 0 = base old i) ∧
   (j < ys.length → bitsAt bs N q' (natB (zz (dd old ys j))) ∧ dRun old ys (j + 1) = 0 ∧ q' + (natB (zz (dd old ys j))).length = p + (natB ys.length ++ dBits old ys (j + 1)).length) := by
 intro ys hg; obtain ⟨h1, h2, h3, h4, h5⟩ := h ys hg; obtain ⟨j, j1, j2, j3, j4⟩ := next_other old ys ys.length (ys.length - zs.length) zs.length (by omega); obtain ⟨r1, r2⟩ := run_from h3 j j1 j3; have hlen : ys.length < 18446744073709551616 := by have := hg.1; omega
 have hb := hg.2.2; unfold full at hb
 by_cases ej : j = ys.length
 ·subst ej; rw [r2] at hb; unfold dTail at hb; rw [r1] at hb
  by_cases hz : 0 < ys.length - zs.length
  ·rw [if_pos hz] at hb; have hm := bitsAt_mid (c := []) (by rw [List.append_nil]; exact hb); rw [← h4] at hm; obtain ⟨e1, e2, e3⟩ := hr _ (by omega) hm; exact ⟨e1, ys.length, by rw [e2]; omega, j1, j2, j3, fun hh => absurd hh (Nat.lt_irrefl _)⟩
  ·omega
 ·have hns := j4.resolve_left ej; obtain ⟨t, ht⟩ := dBits_pre old ys (show j + 1 ≤ ys.length by omega); have hd : dBits old ys (j + 1) = dBits old ys zs.length ++ natB (j - zs.length) ++ natB (zz (dd old ys j)) := by
   simp only [dBits]; rw [if_neg hns, r1, r2]
  have hd0 : dRun old ys (j + 1) = 0 := by simp only [dRun]; rw [if_neg hns]
  rw [ht, hd] at hb; have hb1 : bitsAt bs N p ((natB ys.length ++ dBits old ys zs.length) ++ natB (j - zs.length) ++ (natB (zz (dd old ys j)) ++ t ++ dTail old ys ys.length)) := by simpa only [List.append_assoc] using hb
  have hb2 : bitsAt bs N p ((natB ys.length ++ dBits old ys zs.length ++ natB (j - zs.length)) ++ natB (zz (dd old ys j)) ++ (t ++ dTail old ys ys.length)) := by simpa only [List.append_assoc] using hb
  have hm1 := bitsAt_mid hb1; rw [← h4] at hm1; obtain ⟨e1, e2, e3⟩ := hr _ (by omega) hm1; have hm2 := bitsAt_mid hb2; refine ⟨e1, j, by rw [e2]; omega, j1, j2, j3, fun _ => ⟨?_, hd0, ?_⟩⟩
  ·rw [e3, h4]; rw [List.length_append, ← Nat.add_assoc] at hm2; exact hm2
  ·rw [e3, h4, hd]; simp only [List.length_append]; omega
theorem body_err {bs : List Int} {N p : Nat} {old : List Int} {cnt : Int} {q : Nat} {zs : List Int} {v er : Int} {q' : Nat} (h : bodyI bs N p old cnt q zs) (hlt : (zs.length : Int) < cnt) (hr : natRd bs N q v er q') (he : ¬ er = 0) : ∀ ys, ¬ Good bs N p old ys :=
 fun ys hg => he (body_run h hlt hr ys hg).1
theorem body_big {bs : List Int} {N p : Nat} {old : List Int} {cnt : Int} {q : Nat} {zs : List Int} {v er : Int} {q' : Nat} (h : bodyI bs N p old cnt q zs) (hlt : (zs.length : Int) < cnt) (hr : natRd bs N q v er q') (he : cnt - zs.length < v) : ∀ ys, ¬ Good bs N p old ys :=
 fun ys hg => by
  obtain ⟨_, j, h1, h2, h3, _⟩ := body_run h hlt hr ys hg; have := (h ys hg).1; omega
theorem body_K {bs : List Int} {N p : Nat} {old : List Int} {cnt : Int} {q : Nat} {zs : List Int} {v er : Int} {q' : Nat} (h : bodyI bs N p old cnt q zs) (hlt : (zs.length : Int) < cnt) (hr : natRd bs N q v er q') (hv : 0 ≤ v) : bodyK bs N p old cnt q' zs v.toNat :=
 fun ys hg => by
  obtain ⟨_, j, h1, h2, h3, h4, h5⟩ := body_run h hlt hr ys hg; exact ⟨(h ys hg).1, j, by omega, h3, (h ys hg).2.2.2.2, h4, h5⟩
theorem take_more {zs ys : List Int} (h : zs = ys.take zs.length) (hl : zs.length < ys.length) {z : Int} (hz : ys.getD zs.length 0 = z) : zs ++ [z] = ys.take (zs ++ [z]).length := by
 rw [List.length_append, List.length_singleton, List.take_add_one, ← h, ← hz, List.getD_eq_getElem?_getD, List.getElem?_eq_getElem hl]; rfl
theorem body_more {bs : List Int} {N p : Nat} {old : List Int} {cnt : Int} {q : Nat} {zs : List Int} {r : Nat} (h : bodyK bs N p old cnt q zs (r + 1)) : bodyK bs N p old cnt q (zs ++ [base old zs.length]) r :=
 fun ys hg => by
  obtain ⟨h0, j, h1, h2, h3, h4, h5⟩ := h ys hg; exact ⟨h0, j, by simp; omega, h2, take_more h3 (by omega) (h4 _ (Nat.le_refl _) (by omega)), fun i hi1 hi2 => h4 i (by simp at hi1; omega) hi2, h5⟩
theorem body_done {bs : List Int} {N p : Nat} {old : List Int} {cnt : Int} {q : Nat} {zs : List Int} (h : bodyK bs N p old cnt q zs 0) (he : (zs.length : Int) = cnt) : ∀ ys, Good bs N p old ys → (0 : Int) = 0 ∧ zs = ys :=
 fun ys hg => by
  obtain ⟨h0, j, h1, h2, h3, _⟩ := h ys hg; refine ⟨rfl, ?_⟩; rw [h3, List.take_of_length_le (by omega)]
theorem body_end {bs : List Int} {N p : Nat} {old : List Int} {cnt : Int} {q : Nat} {zs : List Int} (h : bodyI bs N p old cnt q zs) (he : ¬ (zs.length : Int) < cnt) : ∀ ys, Good bs N p old ys → (0 : Int) = 0 ∧ zs = ys :=
 fun ys hg => by
  obtain ⟨h1, h2, _, _, h5⟩ := h ys hg; refine ⟨rfl, ?_⟩; rw [h5, List.take_of_length_le (by omega)]
theorem body_int {bs : List Int} {N p : Nat} {old : List Int} {cnt : Int} {q : Nat} {zs : List Int} {v er : Int} {q' : Nat} (h : bodyK bs N p old cnt q zs 0) (he : ¬ (zs.length : Int) = cnt) (hr : intRd bs N q v er q') : ∀ ys, Good bs N p old ys → er = 0 ∧ v = dd old ys zs.length ∧ zs.length < ys.length ∧ dRun old ys (zs.length + 1) = 0 ∧ q' = p + (natB ys.length ++ dBits old ys (zs.length + 1)).length :=
 fun ys hg => by
  obtain ⟨h0, j, h1, h2, h3, h4, h5⟩ := h ys hg; have hj : j = zs.length := by omega
  subst hj; obtain ⟨b1, b2, b3⟩ := h5 (by omega); obtain ⟨e1, e2, e3⟩ := hr _ (dd_in _ _ _) b1; exact ⟨e1, e2, by omega, b2, by rw [e3]; exact b3⟩
theorem body_interr {bs : List Int} {N p : Nat} {old : List Int} {cnt : Int} {q : Nat} {zs : List Int} {v er : Int} {q' : Nat} (h : bodyK bs N p old cnt q zs 0) (he : ¬ (zs.length : Int) = cnt) (hr : intRd bs N q v er q') (h0 : ¬ er = 0) : ∀ ys, ¬ Good bs N p old ys :=
 fun ys hg => h0 (body_int h he hr ys hg).1
theorem dd_back {y b : Int} (hy : inK .i64 y) : IntKind.i64.wrap (b + IntKind.i64.wrap (y - b)) = y := by
 simp only [inK] at hy; rw [IntKind.wrap_i64, IntKind.wrap_i64]; omega
theorem body_next {bs : List Int} {N p : Nat} {old : List Int} {cnt : Int} {q : Nat} {zs : List Int} {v er : Int} {q' : Nat} (h : bodyK bs N p old cnt q zs 0) (he : ¬ (zs.length : Int) = cnt) (hr : intRd bs N q v er q') : bodyI bs N p old cnt q' (zs ++ [IntKind.i64.wrap (base old zs.length + v)]) :=
 fun ys hg => by
  obtain ⟨e1, e2, e3, e4, e5⟩ := body_int h he hr ys hg; obtain ⟨h0, j, h1, h2, h3, _⟩ := h ys hg; have hy : ys.getD zs.length 0 = IntKind.i64.wrap (base old zs.length + v) := by
   rw [e2]; unfold dd; exact (dd_back (hg.2.1 _ (getD_mem e3))).symm
  refine ⟨h0, by simp; omega, by simpa using e4, by simpa using e5, take_more h3 e3 hy⟩
end Go.Proofs.Ytacmbiohjiogiaa.K
end
section
set_option linter.unusedVariables false
set_option linter.unusedSimpArgs false
set_option maxRecDepth 100000
namespace Go.Proofs.Ytacmbiohjiogiaa.K
open Go.RowKit

theorem bXor_in (k : IntKind) (a b : Int) : inK k (bXor k a b) := by unfold bXor; exact inK_wrap _ _
def shrU (a n : Int) : Int := a.fdiv (2 ^ (min n.toNat IntKind.u64.bits))
/-- What Mix answers. -/
def mixF (a : Int) : Int :=
 let b := IntKind.u64.wrap (bXor .u64 a (shrU a 31) * 7640891576956012809)
 let c := IntKind.u64.wrap (bXor .u64 b (shrU b 27) * 13503953896175478587)
 bXor .u64 c (shrU c 30)
def joinF (h v : Int) : Int := mixF (IntKind.u64.wrap (IntKind.u64.wrap (mixF (IntKind.u64.wrap (h + 5840696475078001361)) * 11170449401992604703) + v))
/-- The sum of a list of words. -/
def sumW (ws : List Int) : Int := ws.foldl joinF (joinF 5840696475078001361 ws.length)
def sumI (xs : List Int) : Int := sumW (xs.map IntKind.u64.wrap)
theorem joinF_in (h v : Int) : inK .u64 (joinF h v) := bXor_in _ _ _
theorem foldl_in : ∀ (ws : List Int) (h : Int), inK .u64 h → inK .u64 (ws.foldl joinF h)
 | [], _, hh => hh
 | w :: ws, h, _ => foldl_in ws (joinF h w) (joinF_in h w)
theorem sumI_bd (xs : List Int) : 0 ≤ sumI xs ∧ sumI xs ≤ 18446744073709551615 := by
 have := foldl_in (xs.map IntKind.u64.wrap) _ (joinF_in 5840696475078001361 (xs.map IntKind.u64.wrap).length); exact this
theorem foldl_step {ws : List Int} {k : Nat} (h0 : Int) (hk : k < ws.length) : joinF ((ws.take k).foldl joinF h0) (ws.getD k 0) = (ws.take (k + 1)).foldl joinF h0 := by
 rw [List.take_add_one, List.foldl_append, List.getD_eq_getElem?_getD, List.getElem?_eq_getElem hk]; rfl

theorem Mix_c {V : Mem} (a : Int) : CallS Try.prog 208 [.int .u64 a].toArray V [] (fun r L' => r = .int .u64 (mixF a) ∧ L' = []) := by
 refine callS Try.func208 rfl rfl (fun w0 => ?_); refine s_seq (s_region ?_); refine o_val rfl rfl rfl (y_assign (v := (.int _ _)) rfl) (o_nil ?_); refine s_seq (s_region ?_); refine o_val rfl rfl rfl (y_move (v := (.int _ _)) rfl) ?_; refine o_val rfl rfl rfl (y_move (v := (.int _ _)) rfl) ?_; refine o_val rfl rfl rfl (y_shr rfl rfl (by omega)) ?_; refine o_val rfl rfl rfl (y_xor rfl rfl) ?_; refine o_val rfl rfl rfl (y_mul' rfl rfl) ?_; refine o_val rfl rfl rfl (y_assign (v := (.int _ _)) rfl) (o_nil ?_); refine s_seq (s_region ?_); refine o_val rfl rfl rfl (y_move (v := (.int _ _)) rfl) ?_; refine o_val rfl rfl rfl (y_move (v := (.int _ _)) rfl) ?_; refine o_val rfl rfl rfl (y_shr rfl rfl (by omega)) ?_; refine o_val rfl rfl rfl (y_xor rfl rfl) ?_; refine o_val rfl rfl rfl (y_mul' rfl rfl) ?_; refine o_val rfl rfl rfl (y_assign (v := (.int _ _)) rfl) (o_nil ?_); refine s_seq (s_region ?_); refine o_val rfl rfl rfl (y_move (v := (.int _ _)) rfl) ?_; refine o_val rfl rfl rfl (y_move (v := (.int _ _)) rfl) ?_; refine o_val rfl rfl rfl (y_shr rfl rfl (by omega)) ?_; refine o_val rfl rfl rfl (y_xor rfl rfl) ?_; refine o_val rfl rfl rfl (y_assign (v := (.int _ _)) rfl) (o_nil ?_); refine s_ret ?_; exact ⟨_, _, res1 rfl rfl, ⟨rfl, rfl⟩, sub_front ⟨_, rfl⟩⟩

theorem Join_c {V : Mem} (h v : Int) : CallS Try.prog 178 [.int .u64 h, .int .u64 v].toArray V [] (fun r L' => r = .int .u64 (joinF h v) ∧ L' = []) := by
 refine callS Try.func178 rfl rfl (fun w0 => ?_); refine s_seq (s_region ?_); refine o_val rfl rfl rfl (y_assign (v := (.int _ _)) rfl) (o_nil ?_); refine s_seq (s_region ?_); refine o_val rfl rfl rfl (y_move (v := (.int _ _)) rfl) ?_; refine o_val rfl rfl rfl (y_add' rfl rfl) ?_; refine o_fn 0 (d := 7) rfl Try.call208 (Mix_c _) rfl ?_; rintro _ _ ⟨rfl, rfl⟩; refine o_val rfl rfl rfl (y_mul' rfl rfl) ?_; refine o_val rfl rfl rfl (y_move (v := (.int _ _)) rfl) ?_; refine o_val rfl rfl rfl (y_add' rfl rfl) ?_; refine o_fn 0 (d := 11) rfl Try.call208 (Mix_c _) rfl ?_; rintro _ _ ⟨rfl, rfl⟩; refine o_val rfl rfl rfl (y_assign (v := (.int _ _)) rfl) (o_nil ?_); refine s_ret ?_; exact ⟨_, _, res1 rfl rfl, ⟨rfl, rfl⟩, sub_front ⟨_, rfl⟩⟩

theorem Words_c {V : Mem} (A : Option Addr) (n c : Nat) (ws : List Int) (h : Cels V [] A (ws.map (.int .u64))) (hn : ws.length = n) (hb : n ≤ 140737488355328) : CallS Try.prog 119 [.slice A n c].toArray V [] (fun r L' => r = .int .u64 (sumW ws) ∧ L' = []) := by
 refine callS Try.func119 rfl rfl (fun w0 => ?_); refine s_seq (s_region ?_); refine o_val rfl rfl rfl (y_assign (v := (.int _ _)) rfl) (o_nil ?_); refine s_seq (s_region ?_); refine o_val rfl rfl rfl (y_move (v := (.slice _ _ _)) rfl) ?_; refine o_val rfl rfl rfl (y_len Try.runUnderlying218 rfl) ?_; refine o_val rfl rfl rfl (y_conv Try.runUnderlying3 Try.runUnderlying86 rfl (by simp only [inK]; omega)) ?_; refine o_fn 0 (d := 9) rfl Try.call178 (Join_c _ _) rfl ?_; rintro _ _ ⟨rfl, rfl⟩; refine o_val rfl rfl rfl (y_assign (v := (.int _ _)) rfl) (o_nil ?_); refine s_seq ?_; refine s_seq (s_region ?_); refine o_val rfl rfl rfl (y_move (v := (.slice _ _ _)) rfl) ?_; refine o_val rfl rfl rfl (y_len Try.runUnderlying218 rfl) ?_; refine o_val rfl rfl rfl (y_move (v := (.int _ _)) rfl) (o_nil ?_); refine s_block ?_; refine s_loop (γ := Nat) (fun g => [(3, .int .u64 ((ws.take g).foldl joinF (joinF 5840696475078001361 n))), (10, .slice A n c), (11, .int .i64 n), (12, .int .i64 g)]) (fun g => []) (fun g => g ≤ n) (fun g => n - g) (0) ?_ ⟨rfl, rfl, rfl, rfl, trivial⟩ (sub_front ⟨_, rfl⟩) ?_
 ·exact Nat.zero_le _
 ·intro g _f hI; refine s_seq (s_region ?_); refine o_val rfl rfl rfl (y_lss rfl rfl) (o_nil ?_); refine s_seq ?_; refine s_if rfl (fun h1 => ?_) (fun h2 => ?_)
  ·refine s_skip ?_; refine s_seq ?_; refine s_block ?_; refine s_seq (s_region ?_); refine o_val rfl rfl rfl (y_index1 Try.runUnderlying218 Try.sizeOf86 (some_int (i := 0) h (by omega)) rfl rfl (by omega)) ?_; refine o_val rfl rfl rfl (y_load Try.isAgg86 rfl (cel_int h.here (by omega))) ?_; refine o_val rfl rfl rfl (y_assign (v := (.int _ _)) rfl) (o_nil ?_); refine s_region ?_; refine o_val rfl rfl rfl (y_move (v := (.int _ _)) rfl) ?_; refine o_val rfl rfl rfl (y_move (v := (.int _ _)) rfl) ?_; refine o_fn 0 (d := 18) rfl Try.call178 (Join_c _ _) rfl ?_; rintro _ _ ⟨rfl, rfl⟩; refine o_val rfl rfl rfl (y_assign (v := (.int _ _)) rfl) (o_nil ?_); refine s_region ?_; refine o_val rfl rfl rfl (y_add rfl rfl (by simp only [inK]; omega)) ?_; refine o_val rfl rfl rfl (y_move (v := (.int _ _)) rfl) (o_nil ?_); exact ⟨g + 1, (by first | omega | (dsimp only; omega)), (show g + 1 ≤ n by omega), ⟨(congrArg (Value.int .u64) (foldl_step _ (by omega))), rfl, rfl, (congrArg (Value.int _) (by omega)), trivial⟩, sub_front ⟨_, rfl⟩⟩
  ·refine s_exit ?_; refine s_seq (s_region ?_); refine o_val rfl rfl rfl (y_move (v := (.int _ _)) rfl) ?_; refine o_val rfl rfl rfl (y_assign (v := (.int _ _)) rfl) (o_nil ?_); refine s_ret ?_; have hin : g = n := by omega
   exact ⟨_, _, res1 rfl rfl, ⟨congrArg (Value.int .u64) (by unfold sumW; rw [hin, ← hn, List.take_length]), rfl⟩, sub_front ⟨_, rfl⟩⟩

theorem map_set_step {xs : List Int} {k : Nat} (hk : k < xs.length) : ((xs.take k).map IntKind.u64.wrap ++ List.replicate (xs.length - k) (0 : Int)).set k (IntKind.u64.wrap (xs.getD k 0)) = (xs.take (k + 1)).map IntKind.u64.wrap ++ List.replicate (xs.length - (k + 1)) (0 : Int) := by
 have e : xs.length - k = xs.length - (k + 1) + 1 := by omega
 rw [e, List.replicate_succ, List.set_append_right _ _ (by simp; omega), List.take_add_one, List.map_append, List.getD_eq_getElem?_getD, List.getElem?_eq_getElem hk]; simp [Nat.min_eq_left (Nat.le_of_lt hk)]

theorem SumInts_c {V : Mem} (A : Option Addr) (n c : Nat) (xs : List Int) (h : Cels V [] A (xs.map (.int .i64))) (hn : xs.length = n) (hb : n ≤ 17592186044416) : CallS Try.prog 42 [.slice A n c].toArray V [] (fun r L' => r = .int .u64 (sumI xs) ∧ L' = []) := by
 refine callS Try.func42 rfl rfl (fun w0 => ?_); refine s_seq (s_region ?_); refine o_val rfl rfl rfl (y_assign (v := (.int _ _)) rfl) (o_nil ?_); refine s_seq (s_region ?_); refine o_val rfl rfl rfl (y_move (v := (.slice _ _ _)) rfl) ?_; refine o_val rfl rfl rfl (y_len Try.runUnderlying22 rfl) ?_; refine o_make (sz := 1) (bytes := 8) (n := n) rfl Try.underlying218 Try.type86 rfl rfl rfl rfl rfl (by omega) (fun A1 E2 ho3 hs4 => ?_); have ho5 : OS A1 n n 86 1 ((List.replicate n (0 : Int)).map (.int .u64)) E2 := os_made_int ho3
 clear ho3
 refine o_val rfl rfl rfl (y_assign (v := (.slice _ _ _)) rfl) (o_nil ?_); refine s_seq ?_; refine s_seq (s_region ?_); refine o_val rfl rfl rfl (y_move (v := (.slice _ _ _)) rfl) ?_; refine o_val rfl rfl rfl (y_len Try.runUnderlying22 rfl) ?_; refine o_val rfl rfl rfl (y_move (v := (.int _ _)) rfl) (o_nil ?_); refine s_block ?_; refine s_loop (γ := Nat × Grp) (fun g => [(3, .slice A1 n n), (9, .slice A n c), (10, .int .i64 n), (11, .int .i64 g.1)]) (fun g => [g.2]) (fun g => g.1 ≤ n ∧ OS A1 n n 86 1 (((xs.take g.1).map IntKind.u64.wrap ++ List.replicate (xs.length - g.1) (0 : Int)).map (.int .u64)) g.2) (fun g => n - g.1) ((0, E2)) ?_ ⟨rfl, rfl, rfl, rfl, trivial⟩ (sub_front ⟨_, rfl⟩) ?_
 ·exact ⟨Nat.zero_le _, by simpa [hn] using ho5⟩
 ·intro g _f hI; obtain ⟨hg, ho⟩ := hI; refine s_seq (s_region ?_); refine o_val rfl rfl rfl (y_lss rfl rfl) (o_nil ?_); refine s_seq ?_; refine s_if rfl (fun h6 => ?_) (fun h7 => ?_)
  ·refine s_skip ?_; refine s_seq ?_; refine s_block ?_; refine s_seq (s_region ?_); refine o_val rfl rfl rfl (y_move (v := (.int _ _)) rfl) ?_; refine o_val rfl rfl rfl (y_index1 Try.runUnderlying22 Try.sizeOf3 (some_int (i := 0) h (by omega)) rfl rfl (by omega)) ?_; refine o_val rfl rfl rfl (y_load Try.isAgg3 rfl (cel_int h.here (by omega))) ?_; refine o_val rfl rfl rfl (y_assign (v := (.int _ _)) rfl) ?_; refine o_val rfl rfl rfl (y_assign (v := (.int _ _)) rfl) (o_nil ?_); refine s_region ?_; refine o_val rfl rfl rfl (y_move (v := (.slice _ _ _)) rfl) ?_; refine o_val rfl rfl rfl (y_move (v := (.int _ _)) rfl) ?_; refine o_val rfl rfl rfl (y_move (v := (.int _ _)) rfl) ?_; refine o_val rfl rfl rfl (y_conv' Try.runUnderlying3 Try.runUnderlying86 rfl) ?_; refine o_val rfl rfl rfl (y_index1 Try.runUnderlying218 Try.sizeOf86 (ho.some_of (by omega)) rfl rfl (by omega)) ?_; refine o_store_os (vs := [(.int _ _)]) 0 rfl ho Try.sizeOf86 rfl rfl rfl (by simp [Value.oneCell']) (by simp) (by simp; omega) (fun E8 ho9 => ?_); have ho10 := os_lay_int ho9 (by simp; omega)
   clear ho9
   refine o_nil ?_; refine s_region ?_; refine o_val rfl rfl rfl (y_add rfl rfl (by simp only [inK]; omega)) ?_; refine o_val rfl rfl rfl (y_move (v := (.int _ _)) rfl) (o_nil ?_); exact ⟨(g.1 + 1, E8), (by first | omega | (dsimp only; omega)), ⟨by dsimp only; omega, by have hs := ho10; rw [show ((g.1 : Nat) : Int).toNat = g.1 from rfl, map_set_step (by omega)] at hs; exact hs⟩, ⟨rfl, rfl, rfl, (congrArg (Value.int _) (by dsimp only; omega)), trivial⟩, sub_front ⟨_, rfl⟩⟩
  ·refine s_exit ?_; refine s_seq (s_region ?_); have hin : g.1 = n := by omega
   rw [hin, ← hn, List.take_length, Nat.sub_self, List.replicate_zero, List.append_nil] at ho; refine o_val rfl rfl rfl (y_move (v := (.slice _ _ _)) rfl) ?_; refine o_fn 0 (d := 23) rfl Try.call119 (Words_c _ _ _ (xs.map IntKind.u64.wrap) (ho.cels (j := 0) rfl).down (by simp [hn]) (by omega)) rfl ?_; rintro _ _ ⟨rfl, rfl⟩; refine o_val rfl rfl rfl (y_assign (v := (.int _ _)) rfl) (o_nil ?_); refine s_ret ?_; exact ⟨_, _, res1 rfl rfl, ⟨rfl, rfl⟩, sub_front ⟨_, rfl⟩⟩

theorem groups_c {V : Mem} (v : Nat) (hv : v < 18446744073709551616) : CallS Try.prog 203 [.int .u64 v].toArray V [] (fun r L' => r = .int .i64 (grp v : Nat) ∧ L' = []) := by
 refine callS Try.func203 rfl rfl (fun w0 => ?_); refine s_seq (s_region ?_); refine o_val rfl rfl rfl (y_assign (v := (.int _ _)) rfl) (o_nil ?_); refine s_seq (s_region ?_); refine o_val rfl rfl rfl (y_assign (v := (.int _ _)) rfl) (o_nil ?_); refine s_seq ?_; refine s_seq (s_region ?_); refine o_val rfl rfl rfl (y_move (v := (.int _ _)) rfl) ?_; refine o_val rfl rfl rfl ((y_shr rfl rfl (by omega)).int (shr4 v)) ?_; refine o_val rfl rfl rfl (y_assign (v := (.int _ _)) rfl) (o_nil ?_); refine s_block ?_; refine s_loop (γ := Nat) (fun g => [(0, .int .u64 ((v / 16 ^ g : Nat) : Int)), (3, .int .i64 g)]) (fun g => []) (fun g => 1 ≤ g ∧ g ≤ 16 ∧ ∀ j, 1 ≤ j → j < g → v / 16 ^ j ≠ 0) (fun g => 17 - g) (1) ?_ ⟨(by rw [Nat.pow_one]; rfl), rfl, trivial⟩ (sub_front ⟨_, rfl⟩) ?_
 ·exact ⟨Nat.le_refl _, by omega, fun j h1 h2 => by omega⟩
 ·intro g _f hI; obtain ⟨h1, h2, h3⟩ := hI; refine s_seq ?_; refine s_seq (s_region ?_); refine o_val rfl rfl rfl (y_move (v := (.int _ _)) rfl) ?_; refine o_val rfl rfl rfl (y_gtr rfl rfl) (o_nil ?_); refine s_if rfl (fun h1 => ?_) (fun h2 => ?_)
  ·have hpos := h1; have hg16 : g < 16 := Nat.lt_of_not_le (fun hh => by rw [div16_zero hv hh] at hpos; omega); refine s_skip ?_; refine s_seq ?_; refine s_block ?_; refine s_region ?_; refine o_val rfl rfl rfl (y_move (v := (.int _ _)) rfl) ?_; refine o_val rfl rfl rfl (y_add rfl rfl (by simp only [inK]; omega)) ?_; refine o_val rfl rfl rfl (y_assign (v := (.int _ _)) rfl) (o_nil ?_); refine s_region ?_; refine o_val rfl rfl rfl (y_move (v := (.int _ _)) rfl) ?_; refine o_val rfl rfl rfl ((y_shr rfl rfl (by omega)).int (shr4 (v / 16 ^ g))) ?_; refine o_val rfl rfl rfl (y_assign (v := (.int _ _)) rfl) (o_nil ?_); exact ⟨g + 1, (by first | omega | (dsimp only; omega)), ⟨by omega, by omega, fun j hj1 hj2 => if e : j = g then by rw [e]; omega else h3 j hj1 (by omega)⟩, ⟨(congrArg (Value.int .u64) (by rw [Nat.pow_succ, ← Nat.div_div_eq_div_mul])), (congrArg (Value.int _) (by omega)), trivial⟩, sub_front ⟨_, rfl⟩⟩
  ·have hzero : v / 16 ^ g = 0 := Nat.eq_zero_of_not_pos (fun hh => h2 (Int.natCast_pos.2 hh)); refine s_exit ?_; refine s_seq (s_region ?_); refine o_val rfl rfl rfl (y_move (v := (.int _ _)) rfl) ?_; refine o_val rfl rfl rfl (y_assign (v := (.int _ _)) rfl) (o_nil ?_); refine s_ret ?_; exact ⟨_, _, res1 rfl rfl, ⟨congrArg (fun k : Nat => Value.int .i64 k) (isGrp_unique ⟨h1, hzero, h3⟩ (grp_is v)), rfl⟩, sub_front ⟨_, rfl⟩⟩

end Go.Proofs.Ytacmbiohjiogiaa.K
end
section
set_option linter.unusedVariables false
set_option linter.unusedSimpArgs false
set_option maxRecDepth 100000
namespace Go.Proofs.Ytacmbiohjiogiaa.K
open Go.RowKit

theorem WNat_c (p : Nat) (A : Option Addr) (m c : Nat) (E : Grp) (bs : List Int) (bits : List Bool) (v : Nat) (hW : Wr bs bits) (hos : OS A m c 5 1 (bs.map (.int .u8)) E) (hv : v < 18446744073709551616) (hfit : bits.length ≤ 524288) (V : Mem) : CallS Try.prog 165 [.pointer (some ⟨p, 0, none⟩), .int .u64 v].toArray V [wgrp p A m c bits.length, E] (fun r L' => r = .int .i64 (wE bits (natB v)) ∧ ∃ A m c E bs', Wr bs' (wB bits (natB v)) ∧ OS A m c 5 1 (bs'.map (.int .u8)) E ∧ L' = [wgrp p A m c ((wB bits (natB v)).length : Nat), E]) := by
 have hg := grp_le hv; have hnl := natB_len v; refine callS Try.func165 rfl rfl (fun w0 => ?_); refine s_seq (s_region ?_); refine o_val rfl rfl rfl (y_assign (v := (.int _ _)) rfl) (o_nil ?_); refine s_seq (s_region ?_); refine o_val rfl rfl rfl (y_move (v := (.int _ _)) rfl) ?_; refine o_fn 0 (d := 9) rfl Try.call203 (groups_c v hv) rfl ?_; rintro _ _ ⟨rfl, rfl⟩; refine o_val rfl rfl rfl (y_assign (v := (.int _ _)) rfl) (o_nil ?_); refine s_seq ?_; refine s_seq (s_region ?_); refine o_val rfl rfl rfl (y_move (v := (.pointer _)) rfl) ?_; refine o_val rfl rfl rfl (y_nilCheck rfl) ?_; refine o_val rfl rfl rfl (y_field0 Try.runUnderlying266 rfl Try.sizeOf3 rfl rfl) ?_; refine o_val rfl rfl rfl (y_load Try.isAgg3 rfl (cel_own 0 rfl rfl)) ?_; refine o_val rfl rfl rfl (y_move (v := (.int _ _)) rfl) ?_; refine o_val rfl rfl rfl (y_mul rfl rfl (by simp only [inK]; omega)) ?_; refine o_val rfl rfl rfl (y_add rfl rfl (by simp only [inK]; omega)) ?_; refine o_val rfl rfl rfl (y_gtr rfl rfl) (o_nil ?_); refine s_if rfl (fun h1 => ?_) (fun h2 => ?_)
 ·have hbig : 524288 < bits.length + (natB v).length := by omega
  refine s_seq (s_region ?_); refine o_val rfl rfl rfl (y_assign (v := (.int _ _)) rfl) (o_nil ?_); refine s_ret ?_; exact ⟨_, [_, _], res1 rfl rfl, ⟨by unfold wE; rw [if_pos hbig]; rfl, _, _, _, _, _, by unfold wB; rw [if_pos hbig]; exact hW, hos, by unfold wB; rw [if_pos hbig]⟩, sub_front ⟨_, rfl⟩⟩
 ·have hok : ¬ 524288 < bits.length + (natB v).length := by omega
  refine s_skip ?_; refine s_seq ?_; refine s_seq (s_region ?_); refine o_val rfl rfl rfl (y_move (v := (.int _ _)) rfl) ?_; refine o_val rfl rfl rfl (y_move (v := (.int _ _)) rfl) (o_nil ?_); refine s_block ?_; refine s_loop (γ := WS) (fun g => [(0, .pointer (some ⟨p, 0, none⟩)), (1, .int .u64 v), (5, .int .i64 (grp v : Nat)), (18, .int .i64 (grp v : Nat)), (19, .int .i64 g.i)]) (fun g => [wgrp p g.A g.n g.c (g.bits.length : Nat), g.E]) (fun g => g.i ≤ grp v ∧ g.bits = bits ++ natBits v g.i ∧ Wr g.bs g.bits ∧ OS g.A g.n g.c 5 1 (g.bs.map (.int .u8)) g.E) (fun g => grp v - g.i) (WS.mk 0 A m c E bs bits) ?_ ⟨rfl, rfl, rfl, rfl, rfl, trivial⟩ (sub_front ⟨_, rfl⟩) ?_
  ·exact ⟨Nat.zero_le _, by rw [natBits_zero, List.append_nil], hW, hos⟩
  ·intro g _f hI; obtain ⟨hi, hbits, hW0, ho0⟩ := hI; refine s_seq (s_region ?_); refine o_val rfl rfl rfl (y_lss rfl rfl) (o_nil ?_); refine s_seq ?_; refine s_if rfl (fun h3 => ?_) (fun h4 => ?_)
   ·refine s_skip ?_; refine s_seq ?_; refine s_block ?_; refine s_seq (s_region ?_); refine o_val rfl rfl rfl (y_move (v := (.int _ _)) rfl) ?_; refine o_val rfl rfl rfl (y_assign (v := (.int _ _)) rfl) (o_nil ?_); refine s_seq (s_region ?_); refine o_val rfl rfl rfl (y_assign (v := (.int _ _)) rfl) (o_nil ?_); refine s_seq ?_; refine s_seq (s_region ?_); refine o_val rfl rfl rfl (y_move (v := (.int _ _)) rfl) ?_; refine o_val rfl rfl rfl (y_add rfl rfl (by simp only [inK]; omega)) ?_; refine o_val rfl rfl rfl (y_move (v := (.int _ _)) rfl) ?_; refine o_val rfl rfl rfl (y_lss rfl rfl) (o_nil ?_); refine s_if rfl (fun h5 => ?_) (fun h6 => ?_)
    ·refine s_region ?_; refine o_val rfl rfl rfl (y_assign (v := (.int _ _)) rfl) (o_nil ?_); refine s_region ?_; refine o_val rfl rfl rfl (y_move (v := (.pointer _)) rfl) ?_; refine o_val rfl rfl rfl (y_move (v := (.int _ _)) rfl) ?_; refine o_val rfl rfl rfl (y_move (v := (.int _ _)) rfl) ?_; refine o_val rfl rfl rfl (y_mul rfl rfl (by simp only [inK]; omega)) ?_; refine o_val rfl rfl rfl (y_shr rfl rfl (by omega)) ?_; refine o_val rfl rfl rfl (y_and rfl rfl) ?_; refine o_val rfl rfl rfl (y_move (v := (.int _ _)) rfl) ?_; refine o_val rfl rfl rfl ((y_or rfl rfl).int (by first | exact nib1 hv (by omega) | exact nib0 hv (by omega))) ?_; refine o_fn 2 (d := 34) rfl Try.call164 (Put_c _ _ _ _ _ _ _ _ 5 hW0 ho0 (by omega) (by omega) (fun _ => by omega) (by rw [hbits, List.length_append, natBits_len]; omega) _) rfl ?_; rintro _ _ ⟨rfl, A7, m8, c9, E10, bs11, hW12, ho13, rfl⟩; refine o_nil ?_; refine s_region ?_; refine o_val rfl rfl rfl (y_add rfl rfl (by simp only [inK]; omega)) ?_; refine o_val rfl rfl rfl (y_move (v := (.int _ _)) rfl) (o_nil ?_); exact ⟨WS.mk (g.i + 1) A7 m8 c9 E10 bs11 _, (by first | omega | (dsimp only; omega)), ⟨by dsimp only; omega, by dsimp only; rw [hbits, List.append_assoc]; first | rw [nat_more (grp_is v) (by omega)] | rw [nat_last (grp_is v) (by omega) (by omega)], hW12, ho13⟩, ⟨rfl, rfl, rfl, rfl, (congrArg (Value.int _) (by dsimp only; omega)), trivial⟩, sub_front ⟨_, rfl⟩⟩
    ·refine s_skip ?_; refine s_region ?_; refine o_val rfl rfl rfl (y_move (v := (.pointer _)) rfl) ?_; refine o_val rfl rfl rfl (y_move (v := (.int _ _)) rfl) ?_; refine o_val rfl rfl rfl (y_move (v := (.int _ _)) rfl) ?_; refine o_val rfl rfl rfl (y_mul rfl rfl (by simp only [inK]; omega)) ?_; refine o_val rfl rfl rfl (y_shr rfl rfl (by omega)) ?_; refine o_val rfl rfl rfl (y_and rfl rfl) ?_; refine o_val rfl rfl rfl (y_move (v := (.int _ _)) rfl) ?_; refine o_val rfl rfl rfl ((y_or rfl rfl).int (by first | exact nib1 hv (by omega) | exact nib0 hv (by omega))) ?_; refine o_fn 2 (d := 34) rfl Try.call164 (Put_c _ _ _ _ _ _ _ _ 5 hW0 ho0 (by omega) (by omega) (fun _ => by omega) (by rw [hbits, List.length_append, natBits_len]; omega) _) rfl ?_; rintro _ _ ⟨rfl, A14, m15, c16, E17, bs18, hW19, ho20, rfl⟩; refine o_nil ?_; refine s_region ?_; refine o_val rfl rfl rfl (y_add rfl rfl (by simp only [inK]; omega)) ?_; refine o_val rfl rfl rfl (y_move (v := (.int _ _)) rfl) (o_nil ?_); exact ⟨WS.mk (g.i + 1) A14 m15 c16 E17 bs18 _, (by first | omega | (dsimp only; omega)), ⟨by dsimp only; omega, by dsimp only; rw [hbits, List.append_assoc]; first | rw [nat_more (grp_is v) (by omega)] | rw [nat_last (grp_is v) (by omega) (by omega)], hW19, ho20⟩, ⟨rfl, rfl, rfl, rfl, (congrArg (Value.int _) (by dsimp only; omega)), trivial⟩, sub_front ⟨_, rfl⟩⟩
   ·refine s_exit ?_; refine s_seq (s_region ?_); refine o_val rfl rfl rfl (y_assign (v := (.int _ _)) rfl) (o_nil ?_); refine s_ret ?_; have hin : g.i = grp v := by omega
    have e1 : wB bits (natB v) = g.bits := by unfold wB; rw [if_neg hok, hbits, hin]; rfl
    exact ⟨_, [_, _], res1 rfl rfl, ⟨by unfold wE; rw [if_neg hok]; rfl, _, _, _, _, _, by rw [e1]; exact hW0, ho0, by rw [e1]⟩, sub_front ⟨_, rfl⟩⟩

theorem WInt_c (p : Nat) (A : Option Addr) (m c : Nat) (E : Grp) (bs : List Int) (bits : List Bool) (d : Int) (hW : Wr bs bits) (hos : OS A m c 5 1 (bs.map (.int .u8)) E) (hd : inK .i64 d) (hfit : bits.length ≤ 524288) (V : Mem) : CallS Try.prog 167 [.pointer (some ⟨p, 0, none⟩), .int .i64 d].toArray V [wgrp p A m c bits.length, E] (fun r L' => r = .int .i64 (wE bits (natB (zz d))) ∧ ∃ A m c E bs', Wr bs' (wB bits (natB (zz d))) ∧ OS A m c 5 1 (bs'.map (.int .u8)) E ∧ L' = [wgrp p A m c ((wB bits (natB (zz d))).length : Nat), E]) := by
 refine callS Try.func167 rfl rfl (fun w0 => ?_); refine s_seq (s_region ?_); refine o_val rfl rfl rfl (y_assign (v := (.int _ _)) rfl) (o_nil ?_); refine s_seq (s_region ?_); refine o_val rfl rfl rfl (y_move (v := (.pointer _)) rfl) ?_; refine o_val rfl rfl rfl (y_move (v := (.int _ _)) rfl) ?_; refine o_val rfl rfl rfl (y_conv' Try.runUnderlying3 Try.runUnderlying86 rfl) ?_; refine o_val rfl rfl rfl (y_shl rfl rfl (by omega)) ?_; refine o_val rfl rfl rfl (y_move (v := (.int _ _)) rfl) ?_; refine o_val rfl rfl rfl (y_shr rfl rfl (by omega)) ?_; refine o_val rfl rfl rfl (y_conv' Try.runUnderlying3 Try.runUnderlying86 rfl) ?_; refine o_val rfl rfl rfl ((y_xor rfl rfl).int (by exact zz_writer hd)) ?_; refine o_fn 2 (d := 13) rfl Try.call165 (WNat_c _ _ _ _ _ _ _ (zz d) hW hos (zz_lt hd) hfit _) rfl ?_; rintro _ _ ⟨rfl, A1, m2, c3, E4, bs5, hW6, ho7, rfl⟩; refine o_val rfl rfl rfl (y_assign (v := (.int _ _)) rfl) (o_nil ?_); refine s_ret ?_; exact ⟨_, [_, _], res1 rfl rfl, ⟨rfl, _, _, _, _, _, hW6, ho7, rfl⟩, sub_front ⟨_, rfl⟩⟩

theorem Base_c {V : Mem} (A : Option Addr) (n c : Nat) (xs : List Int) (h : Cels V [] A (xs.map (.int .i64))) (hn : xs.length = n) (i : Nat) : CallS Try.prog 166 [.slice A n c, .int .i64 i].toArray V [] (fun r L' => r = .int .i64 (base xs i) ∧ L' = []) := by
 refine callS Try.func166 rfl rfl (fun w0 => ?_); refine s_seq (s_region ?_); refine o_val rfl rfl rfl (y_assign (v := (.int _ _)) rfl) (o_nil ?_); refine s_seq ?_; refine s_seq (s_region ?_); refine o_val rfl rfl rfl (y_move (v := (.int _ _)) rfl) ?_; refine o_val rfl rfl rfl (y_move (v := (.slice _ _ _)) rfl) ?_; refine o_val rfl rfl rfl (y_len Try.runUnderlying22 rfl) ?_; refine o_val rfl rfl rfl (y_lss rfl rfl) (o_nil ?_); refine s_if rfl (fun h1 => ?_) (fun h2 => ?_)
 ·refine s_seq (s_region ?_); refine o_val rfl rfl rfl (y_move (v := (.slice _ _ _)) rfl) ?_; refine o_val rfl rfl rfl (y_move (v := (.int _ _)) rfl) ?_; refine o_val rfl rfl rfl (y_index1 Try.runUnderlying22 Try.sizeOf3 (some_int (i := 0) h (by omega)) rfl rfl (by omega)) ?_; refine o_val rfl rfl rfl (y_load Try.isAgg3 rfl (cel_int h.here (by omega))) ?_; refine o_val rfl rfl rfl (y_assign (v := (.int _ _)) rfl) (o_nil ?_); refine s_ret ?_; exact ⟨_, _, res1 rfl rfl, ⟨rfl, rfl⟩, sub_front ⟨_, rfl⟩⟩
 ·refine s_skip ?_; refine s_seq (s_region ?_); refine o_val rfl rfl rfl (y_assign (v := (.int _ _)) rfl) (o_nil ?_); refine s_ret ?_; exact ⟨_, _, res1 rfl rfl, ⟨congrArg (Value.int .i64) (by unfold base; rw [List.getD_eq_getElem?_getD, List.getElem?_eq_none (by omega)]; rfl), rfl⟩, sub_front ⟨_, rfl⟩⟩

end Go.Proofs.Ytacmbiohjiogiaa.K
end
section
set_option linter.unusedVariables false
set_option linter.unusedSimpArgs false
set_option maxRecDepth 100000
namespace Go.Proofs.Ytacmbiohjiogiaa.K
open Go.RowKit

/-- What Ints answers. -/
def inOK (xs ys bs : List Int) (er : Int) : Prop :=
 (er = 0 ∧ xs.length ≤ 65536 ∧ ys.length ≤ 65536 ∧ (dAll (sumI xs) (sumI ys) xs ys).length ≤ 524288 ∧ Wr bs (dAll (sumI xs) (sumI ys) xs ys)) ∨
 (er = 2 ∧ bs = [] ∧ ¬ (xs.length ≤ 65536 ∧ ys.length ≤ 65536 ∧ (dAll (sumI xs) (sumI ys) xs ys).length ≤ 524288))
theorem wOK_head {s1 s2 : Int} {n : Nat} (hn : n < 18446744073709551616) : wOK (dHead s1 s2 n ++ []) 0 (wB ([] ++ bitsOf s1 64 ++ bitsOf s2 64) (natB n)) := by
 have h1 := (natB_bd hn).2; have h2 := dHead_len (s1 := s1) (s2 := s2) hn; have e : wB ([] ++ bitsOf s1 64 ++ bitsOf s2 64) (natB n) = dHead s1 s2 n := by
  unfold wB; rw [if_neg (by simp [bitsOf_len]; omega)]; rfl
 rw [e, List.append_nil]; exact ⟨by omega, .inl ⟨rfl, rfl⟩⟩
theorem wOK_eq {full full' bits : List Bool} {err : Int} (h : wOK full err bits) (e : full = full') : wOK full' err bits := e ▸ h
theorem d_same {old new : List Int} {k : Nat} (h : new.getD k 0 = base old k) : dRun old new (k + 1) = dRun old new k + 1 ∧ dBits old new (k + 1) = dBits old new k := by
 simp only [dRun, dBits]; rw [if_pos h, if_pos h]; exact ⟨rfl, rfl⟩
theorem d_other {old new : List Int} {k : Nat} (h : ¬ new.getD k 0 = base old k) : dRun old new (k + 1) = 0 ∧ dBits old new (k + 1) = dBits old new k ++ natB (dRun old new k) ++ natB (zz (dd old new k)) := by
 simp only [dRun, dBits]; rw [if_neg h, if_neg h]; exact ⟨rfl, rfl⟩

theorem Ints_k0 (w : World) : (Instr.build 266 ([] : List (Nat × Value)).toArray).run Try.prog w = .ok (.agg #[.slice none 0 0, .int .i64 0]) w := by kernel_rfl
theorem Ints_c {V : Mem} (A : Option Addr) (n c : Nat) (xs : List Int) (h : Cels V [] A (xs.map (.int .i64))) (hn : xs.length = n) (B : Option Addr) (m d : Nat) (ys : List Int) (h' : Cels V [] B (ys.map (.int .i64))) (hm : ys.length = m) :
  CallS Try.prog 109 [.slice A n c, .slice B m d].toArray V [] (fun r L' => ∃ R k e bs G er, r = .tuple #[.slice R k e, .int .i64 er] ∧ OS R k e 5 1 (bs.map (.int .u8)) G ∧ L' = [G] ∧ inOK xs ys bs er) := by
 refine callS Try.func109 rfl rfl (fun w0 => ?_); refine s_seq (s_region ?_); refine o_val rfl rfl rfl (y_assign (v := (.slice _ _ _)) rfl) ?_; refine o_val rfl rfl rfl (y_assign (v := (.int _ _)) rfl) (o_nil ?_); refine s_seq ?_; refine s_seq (s_region ?_); refine o_val rfl rfl rfl (y_move (v := (.slice _ _ _)) rfl) ?_; refine o_val rfl rfl rfl (y_len Try.runUnderlying22 rfl) ?_; refine o_split rfl rfl rfl (y_gtr rfl rfl) (fun p1 => ?_) (fun p2 => ?_)
 ·refine o_val rfl rfl rfl (y_move (v := (.bool _)) rfl) ?_; refine o_guard_no rfl rfl rfl rfl rfl ?_; refine o_guard_no rfl rfl rfl rfl rfl ?_; refine o_guard_no rfl rfl rfl rfl rfl ?_; refine o_val rfl rfl rfl (y_pick_t (v := (.bool _)) rfl rfl) (o_nil ?_); refine s_then rfl ?_; refine s_seq (s_region ?_); refine o_val rfl rfl rfl (y_assign (v := (.slice _ _ _)) rfl) ?_; refine o_val rfl rfl rfl (y_assign (v := (.int _ _)) rfl) (o_nil ?_); refine s_ret ?_; exact ⟨_, [[]], res2 rfl rfl rfl, ⟨none, 0, 0, [], [], _, rfl, OS.nil _ _, rfl, .inr ⟨rfl, rfl, fun hh => by omega⟩⟩, sub_none⟩
 ·refine o_val rfl rfl rfl (y_move (v := (.bool _)) rfl) ?_; refine o_guard_yes rfl rfl ?_; refine o_val rfl rfl rfl (y_move (v := (.slice _ _ _)) rfl) ?_; refine o_guard_yes rfl rfl ?_; refine o_val rfl rfl rfl (y_len Try.runUnderlying22 rfl) ?_; refine o_guard_yes rfl rfl ?_; refine o_val rfl rfl rfl (y_gtr rfl rfl) ?_; refine o_val rfl rfl rfl (y_pick_f (v := (.bool _)) rfl rfl) (o_nil ?_); refine s_if rfl (fun h3 => ?_) (fun h4 => ?_)
  ·have hbig := h3; refine s_seq (s_region ?_); refine o_val rfl rfl rfl (y_assign (v := (.slice _ _ _)) rfl) ?_; refine o_val rfl rfl rfl (y_assign (v := (.int _ _)) rfl) (o_nil ?_); refine s_ret ?_; exact ⟨_, [[]], res2 rfl rfl rfl, ⟨none, 0, 0, [], [], _, rfl, OS.nil _ _, rfl, .inr ⟨rfl, rfl, fun hh => by omega⟩⟩, sub_none⟩
  ·have hsm := h4; refine s_skip ?_; refine s_seq (s_region ?_); refine o_val rfl rfl rfl (y_build (vs := []) rfl (Ints_k0)) ?_; refine o_box (v := (.agg #[(.slice _ _ _), (.int _ _)])) rfl rfl rfl (fun b5 => ?_); refine o_val rfl rfl rfl (y_assign (v := (.pointer _)) rfl) (o_nil ?_); refine s_seq (s_region ?_); refine o_newgroup ?_; refine o_val rfl rfl rfl (y_move (v := (.pointer _)) rfl) ?_; refine o_val rfl rfl rfl (y_move (v := (.slice _ _ _)) rfl) ?_; refine o_fn 0 (d := 23) rfl Try.call42 (SumInts_c _ _ _ xs h.here.down hn (by omega)) rfl ?_; rintro _ _ ⟨rfl, rfl⟩; refine o_fn 2 (d := 24) rfl Try.call164 (Put_c _ _ _ _ _ _ _ _ 64 Wr.nil (OS.nil 5 1) (sumI_bd _) (by omega) (fun hh => absurd hh (by decide)) (by decide) _) rfl ?_; rintro _ _ ⟨rfl, A6, m7, c8, E9, bs10, hW11, ho12, rfl⟩; refine o_nil ?_; refine s_seq (s_region ?_); refine o_val rfl rfl rfl (y_move (v := (.pointer _)) rfl) ?_; refine o_val rfl rfl rfl (y_move (v := (.slice _ _ _)) rfl) ?_; refine o_fn 0 (d := 27) rfl Try.call42 (SumInts_c _ _ _ ys h'.here.down hm (by omega)) rfl ?_; rintro _ _ ⟨rfl, rfl⟩; refine o_fn 2 (d := 28) rfl Try.call164 (Put_c _ _ _ _ _ _ _ _ 64 hW11 ho12 (sumI_bd _) (by omega) (fun hh => absurd hh (by decide)) (by simp [bitsOf_len]) _) rfl ?_; rintro _ _ ⟨rfl, A13, m14, c15, E16, bs17, hW18, ho19, rfl⟩; refine o_nil ?_; refine s_seq (s_region ?_); refine o_val rfl rfl rfl (y_move (v := (.pointer _)) rfl) ?_; refine o_val rfl rfl rfl (y_move (v := (.slice _ _ _)) rfl) ?_; refine o_val rfl rfl rfl (y_len Try.runUnderlying22 rfl) ?_; refine o_val rfl rfl rfl (y_conv Try.runUnderlying3 Try.runUnderlying86 rfl (by simp only [inK]; omega)) ?_; refine o_fn 2 (d := 33) rfl Try.call165 (WNat_c _ _ _ _ _ _ _ m hW18 ho19 (by omega) (by simp [bitsOf_len]) _) rfl ?_; rintro _ _ ⟨rfl, A20, m21, c22, E23, bs24, hW25, ho26, rfl⟩; refine o_nil ?_; refine s_seq (s_region ?_); refine o_val rfl rfl rfl (y_assign (v := (.int _ _)) rfl) ?_; refine o_val rfl rfl rfl (y_assign (v := (.int _ _)) rfl) (o_nil ?_); refine s_seq ?_; refine s_seq (s_region ?_); refine o_val rfl rfl rfl (y_move (v := (.slice _ _ _)) rfl) ?_; refine o_val rfl rfl rfl (y_len Try.runUnderlying22 rfl) ?_; refine o_val rfl rfl rfl (y_move (v := (.int _ _)) rfl) (o_nil ?_); refine s_block ?_; refine s_loop (γ := WS × Int) (fun g => [(0, .slice A n c), (6, .pointer (some ⟨b5, 0, none⟩)), (7, .int .i64 (dRun xs ys g.1.i : Nat)), (8, .int .i64 g.2), (34, .slice B m d), (35, .int .i64 m), (36, .int .i64 g.1.i)]) (fun g => [wgrp b5 g.1.A g.1.n g.1.c (g.1.bits.length : Nat), g.1.E]) (fun g => g.1.i ≤ m ∧ Wr g.1.bs g.1.bits ∧ OS g.1.A g.1.n g.1.c 5 1 (g.1.bs.map (.int .u8)) g.1.E ∧ wOK (dHead (sumI xs) (sumI ys) m ++ dBits xs ys g.1.i) g.2 g.1.bits) (fun g => m - g.1.i) ((WS.mk 0 A20 m21 c22 E23 bs24 _, 0)) ?_ ⟨rfl, rfl, rfl, rfl, rfl, rfl, rfl, trivial⟩ (sub_front ⟨_, rfl⟩) ?_
   ·exact ⟨Nat.zero_le _, hW25, ho26, wOK_head (by omega)⟩
   ·intro g _f hI; obtain ⟨hi, hW0, ho0, hok⟩ := hI; refine s_seq (s_region ?_); refine o_val rfl rfl rfl (y_lss rfl rfl) (o_nil ?_); refine s_seq ?_; refine s_if rfl (fun h27 => ?_) (fun h28 => ?_)
    ·refine s_skip ?_; refine s_seq ?_; refine s_block ?_; refine s_seq (s_region ?_); refine o_val rfl rfl rfl (y_move (v := (.int _ _)) rfl) ?_; refine o_val rfl rfl rfl (y_index1 Try.runUnderlying22 Try.sizeOf3 (some_int (i := 0) h' (by omega)) rfl rfl (by omega)) ?_; refine o_val rfl rfl rfl (y_load Try.isAgg3 rfl (cel_int h'.here (by omega))) ?_; refine o_val rfl rfl rfl (y_assign (v := (.int _ _)) rfl) ?_; refine o_val rfl rfl rfl (y_assign (v := (.int _ _)) rfl) (o_nil ?_); refine s_seq ?_; refine s_seq (s_region ?_); refine o_val rfl rfl rfl (y_move (v := (.int _ _)) rfl) ?_; refine o_val rfl rfl rfl (y_move (v := (.slice _ _ _)) rfl) ?_; refine o_val rfl rfl rfl (y_move (v := (.int _ _)) rfl) ?_; refine o_fn 0 (d := 44) rfl Try.call166 (Base_c _ _ _ xs h.here.down hn g.1.i) rfl ?_; rintro _ _ ⟨rfl, rfl⟩; refine o_val rfl rfl rfl (y_eql rfl rfl) (o_nil ?_); refine s_if rfl (fun h29 => ?_) (fun h30 => ?_)
     ·have heq : ys.getD g.1.i 0 = base xs g.1.i := h29; refine s_seq (s_region ?_); refine o_val rfl rfl rfl (y_move (v := (.int _ _)) rfl) ?_; refine o_val rfl rfl rfl (y_add rfl rfl (by have := dRun_le xs ys g.1.i; simp only [inK]; omega)) ?_; refine o_val rfl rfl rfl (y_assign (v := (.int _ _)) rfl) (o_nil ?_); refine s_exit ?_; refine s_region ?_; refine o_val rfl rfl rfl (y_add rfl rfl (by simp only [inK]; omega)) ?_; refine o_val rfl rfl rfl (y_move (v := (.int _ _)) rfl) (o_nil ?_); exact ⟨(WS.mk (g.1.i + 1) g.1.A g.1.n g.1.c g.1.E g.1.bs g.1.bits, g.2), (by first | omega | (dsimp only; omega)), ⟨by dsimp only; omega, hW0, ho0, wOK_eq hok (by dsimp only; rw [(d_same heq).2])⟩, ⟨rfl, rfl, (congrArg (Value.int _) (by dsimp only; rw [(d_same heq).1]; omega)), rfl, rfl, rfl, (congrArg (Value.int _) (by dsimp only; omega)), trivial⟩, sub_front ⟨_, rfl⟩⟩
     ·have heq : ¬ ys.getD g.1.i 0 = base xs g.1.i := h30; refine s_skip ?_; refine s_seq (s_region ?_); refine o_val rfl rfl rfl (y_move (v := (.int _ _)) rfl) ?_; refine o_val rfl rfl rfl (y_move (v := (.pointer _)) rfl) ?_; refine o_val rfl rfl rfl (y_move (v := (.int _ _)) rfl) ?_; refine o_val rfl rfl rfl (y_conv Try.runUnderlying3 Try.runUnderlying86 rfl (by have := dRun_le xs ys g.1.i; simp only [inK]; omega)) ?_; refine o_fn 2 (d := 52) rfl Try.call165 (WNat_c _ _ _ _ _ _ _ (dRun xs ys g.1.i) hW0 ho0 (by have := dRun_le xs ys g.1.i; omega) hok.1 _) rfl ?_; rintro _ _ ⟨rfl, A31, m32, c33, E34, bs35, hW36, ho37, rfl⟩; refine o_val rfl rfl rfl (y_move (v := (.pointer _)) rfl) ?_; refine o_val rfl rfl rfl (y_move (v := (.int _ _)) rfl) ?_; refine o_val rfl rfl rfl (y_move (v := (.slice _ _ _)) rfl) ?_; refine o_val rfl rfl rfl (y_move (v := (.int _ _)) rfl) ?_; refine o_fn 0 (d := 57) rfl Try.call166 (Base_c _ _ _ xs h.here.down hn g.1.i) rfl ?_; rintro _ _ ⟨rfl, rfl⟩; refine o_val rfl rfl rfl (y_sub' rfl rfl) ?_; refine o_fn 2 (d := 59) rfl Try.call167 (WInt_c _ _ _ _ _ _ _ (dd xs ys g.1.i) hW36 ho37 (dd_in _ _ _) (wB_le hok.1) _) rfl ?_; rintro _ _ ⟨rfl, A38, m39, c40, E41, bs42, hW43, ho44, rfl⟩; refine o_val rfl rfl rfl (y_max3 rfl rfl rfl) ?_; refine o_val rfl rfl rfl (y_assign (v := (.int _ _)) rfl) (o_nil ?_); refine s_region ?_; refine o_val rfl rfl rfl (y_assign (v := (.int _ _)) rfl) (o_nil ?_); refine s_region ?_; refine o_val rfl rfl rfl (y_add rfl rfl (by simp only [inK]; omega)) ?_; refine o_val rfl rfl rfl (y_move (v := (.int _ _)) rfl) (o_nil ?_); exact ⟨(WS.mk (g.1.i + 1) A38 m39 c40 E41 bs42 _, _), (by first | omega | (dsimp only; omega)), ⟨by dsimp only; omega, hW43, ho44, wOK_eq (wOK_step (wOK_step hok)) (by dsimp only; rw [(d_other heq).2]; try simp only [List.append_assoc])⟩, ⟨rfl, rfl, (congrArg (Value.int _) (by dsimp only; rw [(d_other heq).1]; rfl)), rfl, rfl, rfl, (congrArg (Value.int _) (by dsimp only; omega)), trivial⟩, sub_front ⟨_, rfl⟩⟩
    ·refine s_exit ?_; refine s_seq ?_; refine s_seq (s_region ?_); have hin : g.1.i = m := by omega
     have hfit := hok.1; refine o_val rfl rfl rfl (y_move (v := (.int _ _)) rfl) ?_; refine o_val rfl rfl rfl (y_gtr rfl rfl) (o_nil ?_); refine s_if rfl (fun h45 => ?_) (fun h46 => ?_)
     ·have hrun : 0 < dRun xs ys g.1.i := by omega
      have htl : dAll (sumI xs) (sumI ys) xs ys = dHead (sumI xs) (sumI ys) m ++ dBits xs ys g.1.i ++ natB (dRun xs ys g.1.i) := by unfold dAll dTail; rw [hm, hin, if_pos (hin ▸ hrun)]
      refine s_region ?_; refine o_val rfl rfl rfl (y_move (v := (.int _ _)) rfl) ?_; refine o_val rfl rfl rfl (y_move (v := (.pointer _)) rfl) ?_; refine o_val rfl rfl rfl (y_move (v := (.int _ _)) rfl) ?_; refine o_val rfl rfl rfl (y_conv Try.runUnderlying3 Try.runUnderlying86 rfl (by have := dRun_le xs ys g.1.i; simp only [inK]; omega)) ?_; refine o_fn 2 (d := 68) rfl Try.call165 (WNat_c _ _ _ _ _ _ _ (dRun xs ys g.1.i) hW0 ho0 (by have := dRun_le xs ys g.1.i; omega) hfit _) rfl ?_; rintro _ _ ⟨rfl, A47, m48, c49, E50, bs51, hW52, ho53, rfl⟩; have hok2 := wOK_step (x := natB (dRun xs ys g.1.i)) hok; refine o_val rfl rfl rfl (y_max rfl rfl) ?_; refine o_val rfl rfl rfl (y_assign (v := (.int _ _)) rfl) (o_nil ?_); refine s_seq ?_; refine s_seq (s_region ?_); refine o_val rfl rfl rfl (y_move (v := (.int _ _)) rfl) ?_; refine o_val rfl rfl rfl (y_neq rfl rfl) (o_nil ?_); refine s_if rfl (fun h54 => ?_) (fun h55 => ?_)
      ·have herr := h54; have hlen : 524288 < (dAll (sumI xs) (sumI ys) xs ys).length := by rw [htl]; exact (hok2.2.resolve_left (fun hh => herr hh.1)).2
       refine s_seq (s_region ?_); refine o_val rfl rfl rfl (y_assign (v := (.slice _ _ _)) rfl) ?_; refine o_val rfl rfl rfl (y_assign (v := (.int _ _)) rfl) (o_nil ?_); refine s_ret ?_; exact ⟨_, [[]], res2 rfl rfl rfl, ⟨none, 0, 0, [], [], _, rfl, OS.nil _ _, rfl, .inr ⟨rfl, rfl, fun hh => by omega⟩⟩, sub_none⟩
      ·have herr := Decidable.not_not.1 h55; have hpair := hok2.2.resolve_right (fun hh => absurd (hh.1.symm.trans herr) (by decide)); have hfin := hpair.2.trans htl.symm; have hlen : (dAll (sumI xs) (sumI ys) xs ys).length ≤ 524288 := by rw [← hfin]; exact hok2.1
       refine s_skip ?_; refine s_seq (s_region ?_); refine o_val rfl rfl rfl (y_move (v := (.pointer _)) rfl) ?_; refine o_fn 2 (d := 73) rfl Try.call168 (Bytes_c _ _ _ _ _ _ _ ho53 (by have h1 := ho53.len; have h2 := hW52.1; have h3 := hok2.1; simp only [List.length_map] at h1; omega) _) rfl ?_; rintro _ _ ⟨RB, re, RG, rfl, hR, rfl⟩; refine o_val rfl rfl rfl (y_assign (v := (.slice _ _ _)) rfl) ?_; refine o_val rfl rfl rfl (y_assign (v := (.int _ _)) rfl) (o_nil ?_); refine s_ret ?_; exact ⟨_, [RG], res2 rfl rfl rfl, ⟨_, _, _, _, _, _, rfl, hR, rfl, .inl ⟨rfl, by omega, by omega, hlen, hfin ▸ hW52⟩⟩, sub_picks [2] rfl⟩
     ·have hrun : ¬ 0 < dRun xs ys g.1.i := by omega
      have htl : dAll (sumI xs) (sumI ys) xs ys = dHead (sumI xs) (sumI ys) m ++ dBits xs ys g.1.i := by unfold dAll dTail; rw [hm, hin, if_neg (hin ▸ hrun), List.append_nil]
      have hok2 := hok; refine s_skip ?_; refine s_seq ?_; refine s_seq (s_region ?_); refine o_val rfl rfl rfl (y_move (v := (.int _ _)) rfl) ?_; refine o_val rfl rfl rfl (y_neq rfl rfl) (o_nil ?_); refine s_if rfl (fun h56 => ?_) (fun h57 => ?_)
      ·have herr := h56; have hlen : 524288 < (dAll (sumI xs) (sumI ys) xs ys).length := by rw [htl]; exact (hok2.2.resolve_left (fun hh => herr hh.1)).2
       refine s_seq (s_region ?_); refine o_val rfl rfl rfl (y_assign (v := (.slice _ _ _)) rfl) ?_; refine o_val rfl rfl rfl (y_assign (v := (.int _ _)) rfl) (o_nil ?_); refine s_ret ?_; exact ⟨_, [[]], res2 rfl rfl rfl, ⟨none, 0, 0, [], [], _, rfl, OS.nil _ _, rfl, .inr ⟨rfl, rfl, fun hh => by omega⟩⟩, sub_none⟩
      ·have herr := Decidable.not_not.1 h57; have hpair := hok2.2.resolve_right (fun hh => absurd (hh.1.symm.trans herr) (by decide)); have hfin := hpair.2.trans htl.symm; have hlen : (dAll (sumI xs) (sumI ys) xs ys).length ≤ 524288 := by rw [← hfin]; exact hok2.1
       refine s_skip ?_; refine s_seq (s_region ?_); refine o_val rfl rfl rfl (y_move (v := (.pointer _)) rfl) ?_; refine o_fn 2 (d := 73) rfl Try.call168 (Bytes_c _ _ _ _ _ _ _ ho0 (by have h1 := ho0.len; have h2 := hW0.1; have h3 := hok2.1; simp only [List.length_map] at h1; omega) _) rfl ?_; rintro _ _ ⟨RB, re, RG, rfl, hR, rfl⟩; refine o_val rfl rfl rfl (y_assign (v := (.slice _ _ _)) rfl) ?_; refine o_val rfl rfl rfl (y_assign (v := (.int _ _)) rfl) (o_nil ?_); refine s_ret ?_; exact ⟨_, [RG], res2 rfl rfl rfl, ⟨_, _, _, _, _, _, rfl, hR, rfl, .inl ⟨rfl, by omega, by omega, hlen, hfin ▸ hW0⟩⟩, sub_picks [2] rfl⟩

end Go.Proofs.Ytacmbiohjiogiaa.K
end
section
set_option linter.unusedVariables false
set_option linter.unusedSimpArgs false
set_option maxRecDepth 100000
namespace Go.Proofs.Ytacmbiohjiogiaa.K
open Go.RowKit

/-- A reader's block. -/
def rgrp (b : Nat) (A : Option Addr) (n c p : Nat) : Grp := [(b, .cells [.slice A n c, .int .i64 p].toArray 310 (0, 0))]
theorem Left_c {V : Mem} (rb : Nat) (A : Option Addr) (n c p : Nat) (bs : List Int) (h : Cels V [] A (bs.map (.int .u8))) (hn : bs.length = n) (hbd : ∀ b ∈ bs, 0 ≤ b ∧ b ≤ 255) (hp : p ≤ 8 * n) (hsz : n ≤ 140737488355328) : CallS Try.prog 204 [.pointer (some ⟨rb, 0, none⟩)].toArray V [rgrp rb A n c p] (fun r L' => r = .int .i64 (8 * (n : Int) - (p : Int)) ∧ L' = [rgrp rb A n c p]) := by
 refine callS Try.func204 rfl rfl (fun w0 => ?_); refine s_seq (s_region ?_); refine o_val rfl rfl rfl (y_assign (v := (.int _ _)) rfl) (o_nil ?_); refine s_seq ?_; refine s_quiet (by kernel_rfl) (by kernel_rfl) ?_; refine q_val rfl rfl rfl (y_move (v := (.pointer _)) rfl) ?_; refine q_val rfl rfl rfl (y_nilCheck rfl) ?_; refine q_val rfl rfl rfl (y_field0 Try.runUnderlying310 rfl Try.sizeOf76 rfl rfl) ?_; refine q_val rfl rfl rfl (y_load Try.isAgg76 rfl (cel_own 0 rfl rfl)) ?_; refine q_val rfl rfl rfl (y_len Try.runUnderlying76 rfl) ?_; refine q_val rfl rfl rfl (y_mul rfl rfl (by simp only [inK]; omega)) ?_; refine q_val rfl rfl rfl (y_move (v := (.pointer _)) rfl) ?_; refine q_val rfl rfl rfl (y_nilCheck rfl) ?_; refine q_val rfl rfl rfl (y_field0 Try.runUnderlying310 rfl Try.sizeOf3 rfl rfl) ?_; refine q_val rfl rfl rfl (y_load Try.isAgg3 rfl (cel_own 0 rfl rfl)) ?_; refine q_val rfl rfl rfl (y_sub rfl rfl (by simp only [inK]; omega)) ?_; refine q_val rfl rfl rfl (y_assign (v := (.int _ _)) rfl) ?_; refine q_nil ?_; refine s_ret ?_; exact ⟨_, _, res1 rfl rfl, ⟨rfl, rfl⟩, sub_front ⟨_, rfl⟩⟩

theorem Get_c {V : Mem} (rb : Nat) (A : Option Addr) (n c p : Nat) (bs : List Int) (h : Cels V [] A (bs.map (.int .u8))) (hn : bs.length = n) (hbd : ∀ b ∈ bs, 0 ≤ b ∧ b ≤ 255) (hp : p ≤ 8 * n) (hsz : n ≤ 140737488355328) (m : Nat) (hm : m ≤ 64) : CallS Try.prog 172 [.pointer (some ⟨rb, 0, none⟩), .int .i64 m].toArray V [rgrp rb A n c p] (fun r L' => r = .tuple #[.int .u64 (gv bs (8 * n) p m), .int .i64 (ge (8 * n) p m)] ∧ L' = [rgrp rb A n c (gp (8 * n) p m)]) := by
 refine callS Try.func172 rfl rfl (fun w0 => ?_); refine s_seq (s_region ?_); refine o_val rfl rfl rfl (y_assign (v := (.int _ _)) rfl) ?_; refine o_val rfl rfl rfl (y_assign (v := (.int _ _)) rfl) (o_nil ?_); refine s_seq ?_; refine s_seq (s_region ?_); refine o_val rfl rfl rfl (y_move (v := (.int _ _)) rfl) ?_; refine o_split rfl rfl rfl (y_lss rfl rfl) (fun p1 => ?_) (fun p2 => ?_)
 ·exfalso; omega
 ·refine o_val rfl rfl rfl (y_move (v := (.bool _)) rfl) ?_; refine o_guard_yes rfl rfl ?_; refine o_val rfl rfl rfl (y_move (v := (.int _ _)) rfl) ?_; refine o_guard_yes rfl rfl ?_; refine o_val rfl rfl rfl (y_gtr rfl rfl) ?_; refine o_val rfl rfl rfl (y_pick_f (v := (.bool _)) rfl rfl) (o_nil ?_); refine s_if rfl (fun h3 => ?_) (fun h4 => ?_)
  ·exfalso; omega
  ·refine s_skip ?_; refine s_seq ?_; refine s_seq (s_region ?_); refine o_val rfl rfl rfl (y_move (v := (.int _ _)) rfl) ?_; refine o_val rfl rfl rfl (y_move (v := (.pointer _)) rfl) ?_; refine o_fn 1 (d := 16) rfl Try.call204 (Left_c _ A n c p bs h.here.down hn hbd hp hsz) rfl ?_; rintro _ _ ⟨rfl, rfl⟩; refine o_val rfl rfl rfl (y_gtr rfl rfl) (o_nil ?_); refine s_if rfl (fun h5 => ?_) (fun h6 => ?_)
   ·have hlt : 8 * n < p + m := by omega
    refine s_seq (s_region ?_); refine o_val rfl rfl rfl (y_assign (v := (.int _ _)) rfl) ?_; refine o_val rfl rfl rfl (y_assign (v := (.int _ _)) rfl) (o_nil ?_); refine s_ret ?_; exact ⟨_, _, res2 rfl rfl rfl, ⟨by unfold gv ge; rw [if_pos hlt, if_pos hlt]; rfl, by unfold gp; rw [if_pos hlt]⟩, sub_front ⟨_, rfl⟩⟩
   ·have hge : ¬ 8 * n < p + m := by omega
    refine s_skip ?_; refine s_seq (s_region ?_); refine o_val rfl rfl rfl (y_assign (v := (.int _ _)) rfl) (o_nil ?_); refine s_seq ?_; refine s_seq (s_region ?_); refine o_val rfl rfl rfl (y_move (v := (.int _ _)) rfl) ?_; refine o_val rfl rfl rfl (y_move (v := (.int _ _)) rfl) (o_nil ?_); refine s_block ?_; refine s_loop (γ := Nat) (fun g => [(0, .pointer (some ⟨rb, 0, none⟩)), (6, .int .u64 (num bs p g : Nat)), (18, .int .i64 m), (19, .int .i64 g)]) (fun g => [rgrp rb A n c (p + g)]) (fun g => g ≤ m) (fun g => m - g) (0) ?_ ⟨rfl, rfl, rfl, rfl, trivial⟩ (sub_front ⟨_, rfl⟩) ?_
    ·exact Nat.zero_le _
    ·intro g _f hI; refine s_seq (s_region ?_); refine o_val rfl rfl rfl (y_lss rfl rfl) (o_nil ?_); refine s_seq ?_; refine s_if rfl (fun h7 => ?_) (fun h8 => ?_)
     ·refine s_skip ?_; refine s_seq ?_; refine s_block ?_; refine s_seq (s_region ?_); refine o_val rfl rfl rfl (y_move (v := (.int _ _)) rfl) ?_; refine o_val rfl rfl rfl (y_assign (v := (.int _ _)) rfl) (o_nil ?_); refine s_seq ?_; refine s_quiet (by kernel_rfl) (by kernel_rfl) ?_; refine q_val rfl rfl rfl (y_move (v := (.int _ _)) rfl) ?_; refine q_val rfl rfl rfl (y_move (v := (.pointer _)) rfl) ?_; refine q_val rfl rfl rfl (y_nilCheck rfl) ?_; refine q_val rfl rfl rfl (y_field0 Try.runUnderlying310 rfl Try.sizeOf76 rfl rfl) ?_; refine q_val rfl rfl rfl (y_load Try.isAgg76 rfl (cel_own 0 rfl rfl)) ?_; refine q_val rfl rfl rfl (y_move (v := (.pointer _)) rfl) ?_; refine q_val rfl rfl rfl (y_nilCheck rfl) ?_; refine q_val rfl rfl rfl (y_field0 Try.runUnderlying310 rfl Try.sizeOf3 rfl rfl) ?_; refine q_val rfl rfl rfl (y_load Try.isAgg3 rfl (cel_own 0 rfl rfl)) ?_; refine q_val rfl rfl rfl (y_quo rfl rfl (by simp only [inK]; omega)) ?_; refine q_val rfl rfl rfl (y_index1 Try.runUnderlying76 Try.sizeOf5 (some_int (i := 0) h (by omega)) rfl rfl (by omega)) ?_; refine q_val rfl rfl rfl (y_load Try.isAgg5 rfl (cel_int h.here (by omega))) ?_; refine q_val rfl rfl rfl (y_move (v := (.pointer _)) rfl) ?_; refine q_val rfl rfl rfl (y_nilCheck rfl) ?_; refine q_val rfl rfl rfl (y_field0 Try.runUnderlying310 rfl Try.sizeOf3 rfl rfl) ?_; refine q_val rfl rfl rfl (y_load Try.isAgg3 rfl (cel_own 0 rfl rfl)) ?_; refine q_val rfl rfl rfl (y_rem rfl rfl (by omega)) ?_; refine q_val rfl rfl rfl (y_shr rfl rfl (by omega)) ?_; refine q_val rfl rfl rfl (y_and rfl rfl) ?_; refine q_val rfl rfl rfl (y_conv Try.runUnderlying5 Try.runUnderlying86 rfl (by exact bit_q_in hbd (p + g))) ?_; refine q_val rfl rfl rfl (y_move (v := (.int _ _)) rfl) ?_; refine q_val rfl rfl rfl (y_shl rfl rfl (by omega)) ?_; refine q_val rfl rfl rfl (y_or rfl rfl) ?_; refine q_val rfl rfl rfl (y_assign (v := (.int _ _)) rfl) ?_; refine q_nil ?_; refine s_region ?_; refine o_val rfl rfl rfl (y_move (v := (.pointer _)) rfl) ?_; refine o_val rfl rfl rfl (y_nilCheck rfl) ?_; refine o_val rfl rfl rfl (y_field0 Try.runUnderlying310 rfl Try.sizeOf3 rfl rfl) ?_; refine o_val rfl rfl rfl (y_load Try.isAgg3 rfl (cel_own 0 rfl rfl)) ?_; refine o_val rfl rfl rfl (y_add rfl rfl (by simp only [inK]; omega)) ?_; refine o_val rfl rfl rfl (y_nilCheck rfl) ?_; refine o_val rfl rfl rfl (y_field0 Try.runUnderlying310 rfl Try.sizeOf3 rfl rfl) ?_; refine o_store (v := (.int _ _)) 0 rfl Try.sizeOf3 rfl rfl rfl rfl (o_nil ?_); refine s_region ?_; refine o_val rfl rfl rfl (y_add rfl rfl (by simp only [inK]; omega)) ?_; refine o_val rfl rfl rfl (y_move (v := (.int _ _)) rfl) (o_nil ?_); exact ⟨g + 1, (by first | omega | (dsimp only; omega)), (show g + 1 ≤ m by omega), ⟨rfl, (congrArg (Value.int .u64) (get_step hbd (by omega))), rfl, (congrArg (Value.int _) (by omega)), trivial⟩, sub_front ⟨_, rfl⟩⟩
     ·refine s_exit ?_; refine s_seq (s_region ?_); refine o_val rfl rfl rfl (y_move (v := (.int _ _)) rfl) ?_; refine o_val rfl rfl rfl (y_assign (v := (.int _ _)) rfl) ?_; refine o_val rfl rfl rfl (y_assign (v := (.int _ _)) rfl) (o_nil ?_); refine s_ret ?_; obtain rfl : g = m := by omega
      exact ⟨_, [_], res2 rfl rfl rfl, ⟨by unfold gv ge; rw [if_neg hge, if_neg hge]; rfl, by unfold gp; rw [if_neg hge]⟩, sub_front ⟨_, rfl⟩⟩

end Go.Proofs.Ytacmbiohjiogiaa.K
end
section
set_option linter.unusedVariables false
set_option linter.unusedSimpArgs false
set_option maxRecDepth 100000
namespace Go.Proofs.Ytacmbiohjiogiaa.K
open Go.RowKit

theorem bOr_bd (a b : Int) : 0 ≤ bOr .u64 a b ∧ bOr .u64 a b ≤ 18446744073709551615 := by
 have : inK .u64 (bOr .u64 a b) := by unfold bOr; exact inK_wrap _ _
 exact this

theorem RNat_c {V : Mem} (rb : Nat) (A : Option Addr) (n c p : Nat) (bs : List Int) (h : Cels V [] A (bs.map (.int .u8))) (hn : bs.length = n) (hbd : ∀ b ∈ bs, 0 ≤ b ∧ b ≤ 255) (hp : p ≤ 8 * n) (hsz : n ≤ 140737488355328) : CallS Try.prog 205 [.pointer (some ⟨rb, 0, none⟩)].toArray V [rgrp rb A n c p] (fun r L' => ∃ v er p', r = .tuple #[.int .u64 v, .int .i64 er] ∧ L' = [rgrp rb A n c p'] ∧ p' ≤ 8 * n ∧ (0 ≤ v ∧ v ≤ 18446744073709551615) ∧ natRd bs (8 * n) p v er p' ∧ (er = 0 ∨ er = 14 ∨ er = 3)) := by
 refine callS Try.func205 rfl rfl (fun w0 => ?_); refine s_seq (s_region ?_); refine o_val rfl rfl rfl (y_assign (v := (.int _ _)) rfl) ?_; refine o_val rfl rfl rfl (y_assign (v := (.int _ _)) rfl) (o_nil ?_); refine s_seq (s_region ?_); refine o_val rfl rfl rfl (y_move (v := (.pointer _)) rfl) ?_; refine o_val rfl rfl rfl (y_nilCheck rfl) ?_; refine o_val rfl rfl rfl (y_field0 Try.runUnderlying310 rfl Try.sizeOf3 rfl rfl) ?_; refine o_val rfl rfl rfl (y_load Try.isAgg3 rfl (cel_own 0 rfl rfl)) ?_; refine o_val rfl rfl rfl (y_assign (v := (.int _ _)) rfl) (o_nil ?_); refine s_seq (s_region ?_); refine o_val rfl rfl rfl (y_assign (v := (.int _ _)) rfl) (o_nil ?_); refine s_seq (s_region ?_); refine o_val rfl rfl rfl (y_assign (v := (.int _ _)) rfl) (o_nil ?_); refine s_block ?_; refine s_loop (γ := Nat × Int) (fun g => [(0, .pointer (some ⟨rb, 0, none⟩)), (4, .int .i64 p), (5, .int .u64 g.2), (6, .int .i64 g.1)]) (fun g => [rgrp rb A n c (p + 5 * g.1)]) (fun g => g.1 ≤ 16 ∧ p + 5 * g.1 ≤ 8 * n ∧ (0 ≤ g.2 ∧ g.2 ≤ 18446744073709551615) ∧ accOK bs (8 * n) p g.1 g.2) (fun g => 17 - g.1) ((0, 0)) ?_ ⟨rfl, rfl, rfl, rfl, trivial⟩ (sub_front ⟨_, rfl⟩) ?_
 ·exact ⟨Nat.zero_le _, hp, by decide, acc_zero _ _ _⟩
 ·intro g _f hI; obtain ⟨hi, hpg, hab, hacc⟩ := hI; refine s_seq ?_; refine s_block ?_; refine s_seq (s_region ?_); refine o_val rfl rfl rfl (y_move (v := (.pointer _)) rfl) ?_; refine o_fn 1 (d := 17) rfl Try.call172 (Get_c _ A n c (p + 5 * g.1) bs h.here.down hn hbd hpg hsz 5 (by omega)) rfl ?_; rintro _ _ ⟨rfl, rfl⟩; refine o_val rfl rfl rfl (y_move (v := (.tuple #[(.int _ _), (.int _ _)])) rfl) ?_; refine o_val rfl rfl rfl (y_extract (v := (.int _ _)) rfl rfl) ?_; refine o_val rfl rfl rfl (y_extract (v := (.int _ _)) rfl rfl) ?_; refine o_val rfl rfl rfl (y_assign (v := (.int _ _)) rfl) ?_; refine o_val rfl rfl rfl (y_assign (v := (.int _ _)) rfl) (o_nil ?_); refine s_seq ?_; refine s_seq (s_region ?_); refine o_val rfl rfl rfl (y_move (v := (.int _ _)) rfl) ?_; refine o_split rfl rfl rfl (y_eql rfl rfl) (fun p1 => ?_) (fun p2 => ?_)
  ·have hge0 := p1; have hge : ¬ 8 * n < p + 5 * g.1 + 5 := by unfold ge at p1; split at p1 <;> first | assumption | exact absurd p1 (by decide)
   have hgp : gp (8 * n) (p + 5 * g.1) 5 = p + 5 * g.1 + 5 := by unfold gp; rw [if_neg hge]
   refine o_val rfl rfl rfl (y_move (v := (.bool _)) rfl) ?_; refine o_guard_yes rfl rfl ?_; refine o_val rfl rfl rfl (y_move (v := (.int _ _)) rfl) ?_; refine o_guard_yes rfl rfl ?_; refine o_split rfl rfl rfl (y_eql rfl rfl) (fun p3 => ?_) (fun p4 => ?_)
   ·have h16 := p3; refine o_guard_yes rfl rfl ?_; refine o_val rfl rfl rfl (y_move (v := (.bool _)) rfl) ?_; refine o_guard_no rfl rfl rfl rfl rfl ?_; refine o_guard_no rfl rfl rfl rfl rfl ?_; refine o_guard_no rfl rfl rfl rfl rfl ?_; refine o_guard_un rfl rfl rfl rfl ?_; refine o_guard_un rfl rfl rfl rfl ?_; refine o_guard_no rfl rfl rfl rfl rfl ?_; refine o_guard_yes rfl rfl ?_; refine o_val rfl rfl rfl (y_pick_t (v := (.bool _)) rfl rfl) ?_; refine o_val rfl rfl rfl (y_pick_t (v := (.bool _)) rfl rfl) (o_nil ?_); refine s_then rfl ?_; refine s_region ?_; refine o_val rfl rfl rfl (y_assign (v := (.int _ _)) rfl) (o_nil ?_); refine s_seq ?_; refine s_seq (s_region ?_); refine o_val rfl rfl rfl (y_move (v := (.int _ _)) rfl) ?_; refine o_val rfl rfl rfl (y_neq rfl rfl) (o_nil ?_); refine s_if rfl (fun h5 => ?_) (fun h6 => ?_)
    ·refine s_seq (s_region ?_); refine o_val rfl rfl rfl (y_move (v := (.pointer _)) rfl) ?_; refine o_val rfl rfl rfl (y_move (v := (.int _ _)) rfl) ?_; refine o_val rfl rfl rfl (y_nilCheck rfl) ?_; refine o_val rfl rfl rfl (y_field0 Try.runUnderlying310 rfl Try.sizeOf3 rfl rfl) ?_; refine o_store (v := (.int _ _)) 0 rfl Try.sizeOf3 rfl rfl rfl rfl (o_nil ?_); refine s_seq (s_region ?_); refine o_val rfl rfl rfl (y_move (v := (.int _ _)) rfl) ?_; refine o_val rfl rfl rfl (y_assign (v := (.int _ _)) rfl) ?_; refine o_val rfl rfl rfl (y_assign (v := (.int _ _)) rfl) (o_nil ?_); refine s_ret ?_; exact ⟨_, [_], res2 rfl rfl rfl, ⟨_, _, p, rfl, rfl, hp, ⟨by decide, by decide⟩, by first | exact acc_short hacc (by assumption) | exact acc_long hacc (by omega) | exact acc_nil hacc hge (by assumption) (by omega), by first | exact .inr (.inr rfl) | exact .inr (.inl (by unfold ge; rw [if_pos hlt]))⟩, sub_front ⟨_, rfl⟩⟩
    ·exact absurd (by decide) h6
   ·have h16 := p4; refine o_guard_yes rfl rfl ?_; refine o_val rfl rfl rfl (y_move (v := (.bool _)) rfl) ?_; refine o_guard_yes rfl rfl ?_; refine o_val rfl rfl rfl (y_move (v := (.int _ _)) rfl) ?_; refine o_guard_yes rfl rfl ?_; refine o_split rfl rfl rfl (y_eql rfl rfl) (fun p7 => ?_) (fun p8 => ?_)
    ·have hz0 := p7; refine o_guard_yes rfl rfl ?_; refine o_val rfl rfl rfl (y_move (v := (.bool _)) rfl) ?_; refine o_guard_yes rfl rfl ?_; refine o_val rfl rfl rfl (y_move (v := (.int _ _)) rfl) ?_; refine o_guard_yes rfl rfl ?_; refine o_split rfl rfl rfl (y_gtr rfl rfl) (fun p9 => ?_) (fun p10 => ?_)
     ·refine o_guard_yes rfl rfl ?_; refine o_val rfl rfl rfl (y_pick_t (v := (.bool _)) rfl rfl) ?_; refine o_guard_yes rfl rfl ?_; refine o_val rfl rfl rfl (y_pick_f (v := (.bool _)) rfl rfl) ?_; refine o_val rfl rfl rfl (y_pick_t (v := (.bool _)) rfl rfl) (o_nil ?_); refine s_then rfl ?_; refine s_region ?_; refine o_val rfl rfl rfl (y_assign (v := (.int _ _)) rfl) (o_nil ?_); refine s_seq ?_; refine s_seq (s_region ?_); refine o_val rfl rfl rfl (y_move (v := (.int _ _)) rfl) ?_; refine o_val rfl rfl rfl (y_neq rfl rfl) (o_nil ?_); refine s_if rfl (fun h11 => ?_) (fun h12 => ?_)
      ·refine s_seq (s_region ?_); refine o_val rfl rfl rfl (y_move (v := (.pointer _)) rfl) ?_; refine o_val rfl rfl rfl (y_move (v := (.int _ _)) rfl) ?_; refine o_val rfl rfl rfl (y_nilCheck rfl) ?_; refine o_val rfl rfl rfl (y_field0 Try.runUnderlying310 rfl Try.sizeOf3 rfl rfl) ?_; refine o_store (v := (.int _ _)) 0 rfl Try.sizeOf3 rfl rfl rfl rfl (o_nil ?_); refine s_seq (s_region ?_); refine o_val rfl rfl rfl (y_move (v := (.int _ _)) rfl) ?_; refine o_val rfl rfl rfl (y_assign (v := (.int _ _)) rfl) ?_; refine o_val rfl rfl rfl (y_assign (v := (.int _ _)) rfl) (o_nil ?_); refine s_ret ?_; exact ⟨_, [_], res2 rfl rfl rfl, ⟨_, _, p, rfl, rfl, hp, ⟨by decide, by decide⟩, by first | exact acc_short hacc (by assumption) | exact acc_long hacc (by omega) | exact acc_nil hacc hge (by assumption) (by omega), by first | exact .inr (.inr rfl) | exact .inr (.inl (by unfold ge; rw [if_pos hlt]))⟩, sub_front ⟨_, rfl⟩⟩
      ·exact absurd (by decide) h12
     ·refine o_guard_yes rfl rfl ?_; refine o_val rfl rfl rfl (y_pick_t (v := (.bool _)) rfl rfl) ?_; refine o_guard_yes rfl rfl ?_; refine o_val rfl rfl rfl (y_pick_f (v := (.bool _)) rfl rfl) ?_; refine o_val rfl rfl rfl (y_pick_t (v := (.bool _)) rfl rfl) (o_nil ?_); refine s_else rfl ?_; refine s_skip ?_; refine s_seq ?_; refine s_seq (s_region ?_); refine o_val rfl rfl rfl (y_move (v := (.int _ _)) rfl) ?_; refine o_val rfl rfl rfl (y_neq rfl rfl) (o_nil ?_); refine s_if rfl (fun h13 => ?_) (fun h14 => ?_)
      ·exact absurd hge0 h13
      ·refine s_skip ?_; refine s_seq (s_region ?_); refine o_val rfl rfl rfl (y_move (v := (.int _ _)) rfl) ?_; refine o_val rfl rfl rfl (y_move (v := (.int _ _)) rfl) ?_; refine o_val rfl rfl rfl (y_and rfl rfl) ?_; refine o_val rfl rfl rfl (y_move (v := (.int _ _)) rfl) ?_; refine o_val rfl rfl rfl (y_mul rfl rfl (by simp only [inK]; omega)) ?_; refine o_val rfl rfl rfl (y_shl rfl rfl (by omega)) ?_; refine o_val rfl rfl rfl (y_or rfl rfl) ?_; refine o_val rfl rfl rfl (y_assign (v := (.int _ _)) rfl) (o_nil ?_); refine s_seq (s_region ?_); refine o_val rfl rfl rfl (y_move (v := (.int _ _)) rfl) ?_; refine o_val rfl rfl rfl (y_lss rfl rfl) (o_nil ?_); refine s_if rfl (fun h15 => ?_) (fun h16 => ?_)
       ·refine s_seq (s_region ?_); refine o_val rfl rfl rfl (y_move (v := (.int _ _)) rfl) ?_; refine o_val rfl rfl rfl (y_assign (v := (.int _ _)) rfl) ?_; refine o_val rfl rfl rfl (y_assign (v := (.int _ _)) rfl) (o_nil ?_); refine s_ret ?_; exact ⟨_, [_], res2 rfl rfl rfl, ⟨_, _, (p + 5 * g.1 + 5), rfl, by rw [hgp], by omega, bOr_bd _ _, acc_done hacc (by omega) hge (by assumption), .inl rfl⟩, sub_front ⟨_, rfl⟩⟩
       ·refine s_skip ?_; refine s_region ?_; refine o_val rfl rfl rfl (y_move (v := (.int _ _)) rfl) ?_; refine o_val rfl rfl rfl (y_add rfl rfl (by simp only [inK]; omega)) ?_; refine o_val rfl rfl rfl (y_assign (v := (.int _ _)) rfl) (o_nil ?_); exact ⟨(g.1 + 1, _), (by first | omega | (dsimp only; omega)), ⟨by dsimp only; omega, by dsimp only; omega, bOr_bd _ _, acc_step hacc (by omega) hge (by assumption)⟩, ⟨rfl, rfl, rfl, (congrArg (Value.int _) (by dsimp only; omega)), trivial⟩, (by rw [hgp]; exact sub_front ⟨_, rfl⟩)⟩
    ·have hz0 := p8; refine o_guard_yes rfl rfl ?_; refine o_val rfl rfl rfl (y_move (v := (.bool _)) rfl) ?_; refine o_guard_no rfl rfl rfl rfl rfl ?_; refine o_guard_no rfl rfl rfl rfl rfl ?_; refine o_guard_yes rfl rfl ?_; refine o_val rfl rfl rfl (y_pick_f (v := (.bool _)) rfl rfl) ?_; refine o_guard_yes rfl rfl ?_; refine o_val rfl rfl rfl (y_pick_f (v := (.bool _)) rfl rfl) ?_; refine o_val rfl rfl rfl (y_pick_t (v := (.bool _)) rfl rfl) (o_nil ?_); refine s_else rfl ?_; refine s_skip ?_; refine s_seq ?_; refine s_seq (s_region ?_); refine o_val rfl rfl rfl (y_move (v := (.int _ _)) rfl) ?_; refine o_val rfl rfl rfl (y_neq rfl rfl) (o_nil ?_); refine s_if rfl (fun h17 => ?_) (fun h18 => ?_)
     ·exact absurd hge0 h17
     ·refine s_skip ?_; refine s_seq (s_region ?_); refine o_val rfl rfl rfl (y_move (v := (.int _ _)) rfl) ?_; refine o_val rfl rfl rfl (y_move (v := (.int _ _)) rfl) ?_; refine o_val rfl rfl rfl (y_and rfl rfl) ?_; refine o_val rfl rfl rfl (y_move (v := (.int _ _)) rfl) ?_; refine o_val rfl rfl rfl (y_mul rfl rfl (by simp only [inK]; omega)) ?_; refine o_val rfl rfl rfl (y_shl rfl rfl (by omega)) ?_; refine o_val rfl rfl rfl (y_or rfl rfl) ?_; refine o_val rfl rfl rfl (y_assign (v := (.int _ _)) rfl) (o_nil ?_); refine s_seq (s_region ?_); refine o_val rfl rfl rfl (y_move (v := (.int _ _)) rfl) ?_; refine o_val rfl rfl rfl (y_lss rfl rfl) (o_nil ?_); refine s_if rfl (fun h19 => ?_) (fun h20 => ?_)
      ·refine s_seq (s_region ?_); refine o_val rfl rfl rfl (y_move (v := (.int _ _)) rfl) ?_; refine o_val rfl rfl rfl (y_assign (v := (.int _ _)) rfl) ?_; refine o_val rfl rfl rfl (y_assign (v := (.int _ _)) rfl) (o_nil ?_); refine s_ret ?_; exact ⟨_, [_], res2 rfl rfl rfl, ⟨_, _, (p + 5 * g.1 + 5), rfl, by rw [hgp], by omega, bOr_bd _ _, acc_done hacc (by omega) hge (by assumption), .inl rfl⟩, sub_front ⟨_, rfl⟩⟩
      ·refine s_skip ?_; refine s_region ?_; refine o_val rfl rfl rfl (y_move (v := (.int _ _)) rfl) ?_; refine o_val rfl rfl rfl (y_add rfl rfl (by simp only [inK]; omega)) ?_; refine o_val rfl rfl rfl (y_assign (v := (.int _ _)) rfl) (o_nil ?_); exact ⟨(g.1 + 1, _), (by first | omega | (dsimp only; omega)), ⟨by dsimp only; omega, by dsimp only; omega, bOr_bd _ _, acc_step hacc (by omega) hge (by assumption)⟩, ⟨rfl, rfl, rfl, (congrArg (Value.int _) (by dsimp only; omega)), trivial⟩, (by rw [hgp]; exact sub_front ⟨_, rfl⟩)⟩
  ·have hne0 := p2; have hlt : 8 * n < p + 5 * g.1 + 5 := by unfold ge at p2; split at p2 <;> first | assumption | exact absurd rfl p2
   refine o_val rfl rfl rfl (y_move (v := (.bool _)) rfl) ?_; refine o_guard_no rfl rfl rfl rfl rfl ?_; refine o_guard_no rfl rfl rfl rfl rfl ?_; refine o_guard_no rfl rfl rfl rfl rfl ?_; refine o_guard_un rfl rfl rfl rfl ?_; refine o_guard_un rfl rfl rfl rfl ?_; refine o_guard_un rfl rfl rfl rfl ?_; refine o_guard_un rfl rfl rfl rfl ?_; refine o_guard_un rfl rfl rfl rfl ?_; refine o_guard_un rfl rfl rfl rfl ?_; refine o_guard_no rfl rfl rfl rfl rfl ?_; refine o_val rfl rfl rfl (y_pick_f (v := (.bool _)) rfl rfl) (o_nil ?_); refine s_else rfl ?_; refine s_skip ?_; refine s_seq ?_; refine s_seq (s_region ?_); refine o_val rfl rfl rfl (y_move (v := (.int _ _)) rfl) ?_; refine o_val rfl rfl rfl (y_neq rfl rfl) (o_nil ?_); refine s_if rfl (fun h21 => ?_) (fun h22 => ?_)
   ·refine s_seq (s_region ?_); refine o_val rfl rfl rfl (y_move (v := (.pointer _)) rfl) ?_; refine o_val rfl rfl rfl (y_move (v := (.int _ _)) rfl) ?_; refine o_val rfl rfl rfl (y_nilCheck rfl) ?_; refine o_val rfl rfl rfl (y_field0 Try.runUnderlying310 rfl Try.sizeOf3 rfl rfl) ?_; refine o_store (v := (.int _ _)) 0 rfl Try.sizeOf3 rfl rfl rfl rfl (o_nil ?_); refine s_seq (s_region ?_); refine o_val rfl rfl rfl (y_move (v := (.int _ _)) rfl) ?_; refine o_val rfl rfl rfl (y_assign (v := (.int _ _)) rfl) ?_; refine o_val rfl rfl rfl (y_assign (v := (.int _ _)) rfl) (o_nil ?_); refine s_ret ?_; exact ⟨_, [_], res2 rfl rfl rfl, ⟨_, _, p, rfl, rfl, hp, ⟨by decide, by decide⟩, by first | exact acc_short hacc (by assumption) | exact acc_long hacc (by omega) | exact acc_nil hacc hge (by assumption) (by omega), by first | exact .inr (.inr rfl) | exact .inr (.inl (by unfold ge; rw [if_pos hlt]))⟩, sub_front ⟨_, rfl⟩⟩
   ·exact absurd hne0 h22

end Go.Proofs.Ytacmbiohjiogiaa.K
end
section
set_option linter.unusedVariables false
set_option linter.unusedSimpArgs false
set_option maxRecDepth 100000
namespace Go.Proofs.Ytacmbiohjiogiaa.K
open Go.RowKit

theorem BEqual_c {V : Mem} (A : Option Addr) (n c : Nat) (bs : List Int) (h : Cels V [] A (bs.map (.int .u8))) (hn : bs.length = n) (hb : ∀ b ∈ bs, 0 ≤ b ∧ b ≤ 255) (B : Option Addr) (m d : Nat) (cs : List Int) (h' : Cels V [] B (cs.map (.int .u8))) (hm : cs.length = m) (hc : ∀ b ∈ cs, 0 ≤ b ∧ b ≤ 255) :
  CallS Try.prog 40 [.slice A n c, .slice B m d].toArray V [] (fun r L' => r = .bool (decide (bs = cs)) ∧ L' = []) := by
 refine callS Try.func40 rfl rfl (fun w0 => ?_); refine s_seq (s_region ?_); refine o_val rfl rfl rfl (y_assign (v := (.bool _)) rfl) (o_nil ?_); refine s_seq (s_region ?_); refine o_val rfl rfl rfl (y_move (v := (.slice _ _ _)) rfl) ?_; refine o_val rfl rfl rfl (y_bytes_str Try.underlying76 Try.underlying5 Try.underlying9 rfl (h.here) (hn)) ?_; refine o_val rfl rfl rfl (y_move (v := (.slice _ _ _)) rfl) ?_; refine o_val rfl rfl rfl (y_bytes_str Try.underlying76 Try.underlying5 Try.underlying9 rfl (h'.here) (hm)) ?_; refine o_val rfl rfl rfl (y_eql_str rfl rfl) ?_; refine o_val rfl rfl rfl (y_assign (v := (.bool _)) rfl) (o_nil ?_); refine s_ret ?_; exact ⟨_, _, res1 rfl rfl, ⟨congrArg Value.bool (by rw [decide_eq_decide]; exact mkB_inj hb hc), rfl⟩, sub_front ⟨_, rfl⟩⟩

end Go.Proofs.Ytacmbiohjiogiaa.K
end
section
set_option linter.unusedVariables false
set_option linter.unusedSimpArgs false
set_option maxRecDepth 100000
namespace Go.Proofs.Ytacmbiohjiogiaa.K
open Go.RowKit

theorem NewR_k0 (v0A : Option Addr) (v0n : Nat) (v0c : Nat) (w : World) : (Instr.build 310 ([(0, (.slice v0A v0n v0c))] : List (Nat × Value)).toArray).run Try.prog w = .ok (.agg #[.slice v0A v0n v0c, .int .i64 0]) w := by kernel_rfl
theorem NewR_c {V : Mem} (A : Option Addr) (n c : Nat) (bs : List Int) (h : Cels V [] A (bs.map (.int .u8))) (hn : bs.length = n) (hsz : n ≤ 140737488355328) : CallS Try.prog 171 [.slice A n c].toArray V []
  (fun r L' => ∃ rb B e G, r = .pointer (some ⟨rb, 0, none⟩) ∧ OS B n e 5 1 (bs.map (.int .u8)) G ∧ L' = [rgrp rb B n e 0, G]) := by
 refine callS Try.func171 rfl rfl (fun w0 => ?_); refine s_seq (s_region ?_); refine o_val rfl rfl rfl (y_assign (v := (.pointer _)) rfl) (o_nil ?_); refine s_seq (s_region ?_); refine o_val rfl rfl rfl (y_move (v := (.slice _ _ _)) rfl) ?_; refine o_newgroup ?_; refine o_append (sz := 1) (bytes := 1) (news := bs.map (.int .u8)) 0 rfl Try.underlying76 Try.type5 rfl rfl rfl rfl rfl (OS.nil 5 1) rfl rfl (Src.rd (sz := 0) Try.underlying76 h.here (by simp [hn]) (one_int _ _)) (by omega) (fun A2 c3 E4 ho5 hn6 => ?_); have ho7 : OS A2 n c3 5 1 (bs.map (.int .u8)) E4 := by simpa using ho5
 clear ho5
 refine o_val rfl rfl rfl (y_build (vs := [(0, .slice _ _ _)]) rfl (NewR_k0 _ _ _)) ?_; refine o_box (v := (.agg #[(.slice _ _ _), (.int _ _)])) rfl rfl rfl (fun b8 => ?_); refine o_val rfl rfl rfl (y_assign (v := (.pointer _)) rfl) (o_nil ?_); refine s_ret ?_; have e0 : (0 + n : Nat) = n := Nat.zero_add n; exact ⟨_, [rgrp b8 A2 n c3 0, E4], res1 rfl rfl, ⟨_, _, _, _, rfl, ho7, rfl⟩, (by rw [e0]; exact sub_picks [1, 0] rfl)⟩

end Go.Proofs.Ytacmbiohjiogiaa.K
end
section
set_option linter.unusedVariables false
set_option linter.unusedSimpArgs false
set_option maxRecDepth 100000
namespace Go.Proofs.Ytacmbiohjiogiaa.K
open Go.RowKit

theorem RInt_c {V : Mem} (rb : Nat) (A : Option Addr) (n c p : Nat) (bs : List Int) (h : Cels V [] A (bs.map (.int .u8))) (hn : bs.length = n) (hbd : ∀ b ∈ bs, 0 ≤ b ∧ b ≤ 255) (hp : p ≤ 8 * n) (hsz : n ≤ 140737488355328) : CallS Try.prog 206 [.pointer (some ⟨rb, 0, none⟩)].toArray V [rgrp rb A n c p] (fun r L' => ∃ v er p', r = .tuple #[.int .i64 v, .int .i64 er] ∧ L' = [rgrp rb A n c p'] ∧ p' ≤ 8 * n ∧ inK .i64 v ∧ intRd bs (8 * n) p v er p' ∧ (er = 0 ∨ er = 14 ∨ er = 3)) := by
 refine callS Try.func206 rfl rfl (fun w0 => ?_); refine s_seq (s_region ?_); refine o_val rfl rfl rfl (y_assign (v := (.int _ _)) rfl) ?_; refine o_val rfl rfl rfl (y_assign (v := (.int _ _)) rfl) (o_nil ?_); refine s_seq (s_region ?_); refine o_val rfl rfl rfl (y_move (v := (.pointer _)) rfl) ?_; refine o_fn 1 (d := 8) rfl Try.call205 (RNat_c _ A n c p bs h.here.down hn hbd hp hsz) rfl ?_; rintro _ _ ⟨v1, er2, p3, rfl, rfl, hp4, hv5, hrd6, hkq7⟩; refine o_val rfl rfl rfl (y_move (v := (.tuple #[(.int _ _), (.int _ _)])) rfl) ?_; refine o_val rfl rfl rfl (y_extract (v := (.int _ _)) rfl rfl) ?_; refine o_val rfl rfl rfl (y_extract (v := (.int _ _)) rfl rfl) ?_; refine o_val rfl rfl rfl (y_assign (v := (.int _ _)) rfl) ?_; refine o_val rfl rfl rfl (y_assign (v := (.int _ _)) rfl) (o_nil ?_); refine s_seq ?_; refine s_seq (s_region ?_); refine o_val rfl rfl rfl (y_move (v := (.int _ _)) rfl) ?_; refine o_val rfl rfl rfl (y_neq rfl rfl) (o_nil ?_); refine s_if rfl (fun h8 => ?_) (fun h9 => ?_)
 ·have her := h8; refine s_seq (s_region ?_); refine o_val rfl rfl rfl (y_move (v := (.int _ _)) rfl) ?_; refine o_val rfl rfl rfl (y_assign (v := (.int _ _)) rfl) ?_; refine o_val rfl rfl rfl (y_assign (v := (.int _ _)) rfl) (o_nil ?_); refine s_ret ?_; exact ⟨_, [_], res2 rfl rfl rfl, ⟨_, _, _, rfl, rfl, hp4, ⟨by decide, by decide⟩, fun d hd hb => absurd (hrd6 _ (zz_lt hd) hb).1 her, hkq7⟩, sub_front ⟨_, rfl⟩⟩
 ·have her := Decidable.not_not.1 h9; refine s_skip ?_; refine s_seq (s_region ?_); refine o_val rfl rfl rfl (y_move (v := (.int _ _)) rfl) ?_; refine o_val rfl rfl rfl (y_shr rfl rfl (by omega)) ?_; refine o_val rfl rfl rfl (y_move (v := (.int _ _)) rfl) ?_; refine o_val rfl rfl rfl (y_and rfl rfl) ?_; refine o_val rfl rfl rfl (y_neg' rfl) ?_; refine o_val rfl rfl rfl (y_xor rfl rfl) ?_; refine o_val rfl rfl rfl (y_conv' Try.runUnderlying86 Try.runUnderlying3 rfl) ?_; refine o_val rfl rfl rfl (y_assign (v := (.int _ _)) rfl) ?_; refine o_val rfl rfl rfl (y_assign (v := (.int _ _)) rfl) (o_nil ?_); refine s_ret ?_; exact ⟨_, [_], res2 rfl rfl rfl, ⟨_, _, _, rfl, rfl, hp4, inK_wrap _ _, fun d hd hb => by
   obtain ⟨e1, e2, e3⟩ := hrd6 _ (zz_lt hd) hb; exact ⟨rfl, by rw [e2]; exact unzz hd, e3⟩, .inl rfl⟩, sub_front ⟨_, rfl⟩⟩

theorem sub_two {L : List Grp} {G : Grp} (j : Nat) (h : nth L j = some G) : Sub [G, []] L := fun _ _ _ hw => by
 obtain ⟨a, b, e, _⟩ := setG_split h; refine hw.sublist ?_; rw [e]; simp only [List.flatten_append, List.flatten_cons, List.flatten_nil, List.append_nil]; exact (List.sublist_append_left _ _).trans (List.sublist_append_right _ _)

theorem body_k0 (v0 : Int) (w : World) : (Instr.buildSlice 22 1 ([(0, (.int .i64 v0))] : List (Nat × Value)).toArray).run Try.prog w = .ok (.slice (some ⟨w.heap.size, 0, none⟩) 1 1) { w with heap := w.heap.push (.cells ([.int .i64 v0] : List Value).toArray 3 (0, 0)) } := by kernel_rfl
theorem body_c {V : Mem} (rb : Nat) (A : Option Addr) (n c p : Nat) (bs : List Int) (h : Cels V [] A (bs.map (.int .u8))) (hn : bs.length = n) (hbd : ∀ b ∈ bs, 0 ≤ b ∧ b ≤ 255) (hp : p ≤ 8 * n) (hsz : n ≤ 140737488355328) (B : Option Addr) (m d : Nat) (xs : List Int) (h2 : Cels V [] B (xs.map (.int .i64))) (hm : xs.length = m) :
  CallS Try.prog 173 [.pointer (some ⟨rb, 0, none⟩), .slice B m d].toArray V [rgrp rb A n c p] (fun r L' => ∃ R k e zs G er p', r = .tuple #[.slice R k e, .int .i64 er] ∧ OS R k e 3 1 (zs.map (.int .i64)) G ∧ L' = [rgrp rb A n c p', G] ∧ zs.length ≤ 65536 ∧ (er = 0 ∨ er = 14 ∨ er = 3 ∨ er = 2) ∧ ∀ ys, Good bs (8 * n) p xs ys → er = 0 ∧ zs = ys) := by
 refine callS Try.func173 rfl rfl (fun w0 => ?_); refine s_seq (s_region ?_); refine o_val rfl rfl rfl (y_assign (v := (.slice _ _ _)) rfl) ?_; refine o_val rfl rfl rfl (y_assign (v := (.int _ _)) rfl) (o_nil ?_); refine s_seq (s_region ?_); refine o_val rfl rfl rfl (y_move (v := (.pointer _)) rfl) ?_; refine o_fn 1 (d := 14) rfl Try.call205 (RNat_c _ A n c p bs h.here.down hn hbd hp hsz) rfl ?_; rintro _ _ ⟨v1, er2, p3, rfl, rfl, hp4, hv5, hrd6, hkq7⟩; refine o_val rfl rfl rfl (y_move (v := (.tuple #[(.int _ _), (.int _ _)])) rfl) ?_; refine o_val rfl rfl rfl (y_extract (v := (.int _ _)) rfl rfl) ?_; refine o_val rfl rfl rfl (y_extract (v := (.int _ _)) rfl rfl) ?_; refine o_val rfl rfl rfl (y_assign (v := (.int _ _)) rfl) ?_; refine o_val rfl rfl rfl (y_assign (v := (.int _ _)) rfl) (o_nil ?_); refine s_seq ?_; refine s_seq (s_region ?_); refine o_val rfl rfl rfl (y_move (v := (.int _ _)) rfl) ?_; refine o_val rfl rfl rfl (y_neq rfl rfl) (o_nil ?_); refine s_if rfl (fun h8 => ?_) (fun h9 => ?_)
 ·have her0 := h8; refine s_seq (s_region ?_); refine o_val rfl rfl rfl (y_move (v := (.int _ _)) rfl) ?_; refine o_val rfl rfl rfl (y_assign (v := (.slice _ _ _)) rfl) ?_; refine o_val rfl rfl rfl (y_assign (v := (.int _ _)) rfl) (o_nil ?_); refine s_ret ?_; exact ⟨_, [rgrp rb A n c _, []], res2 rfl rfl rfl, ⟨none, 0, 0, [], [], _, _, rfl, OS.nil _ _, rfl, by simp, by have := hkq7; omega, fun ys hg => absurd hg (fun hg => her0 (body_start hrd6 ys hg).1)⟩, sub_two 0 rfl⟩
 ·have her0 := Decidable.not_not.1 h9; refine s_skip ?_; refine s_seq ?_; refine s_seq (s_region ?_); refine o_val rfl rfl rfl (y_move (v := (.int _ _)) rfl) ?_; refine o_val rfl rfl rfl (y_gtr rfl rfl) (o_nil ?_); refine s_if rfl (fun h10 => ?_) (fun h11 => ?_)
  ·have hbig := h10; refine s_seq (s_region ?_); refine o_val rfl rfl rfl (y_assign (v := (.slice _ _ _)) rfl) ?_; refine o_val rfl rfl rfl (y_assign (v := (.int _ _)) rfl) (o_nil ?_); refine s_ret ?_; exact ⟨_, [rgrp rb A n c _, []], res2 rfl rfl rfl, ⟨none, 0, 0, [], [], _, _, rfl, OS.nil _ _, rfl, by simp, .inr (.inr (.inr rfl)), fun ys hg => absurd hg (fun hg => by have h1 := (body_start hrd6 ys hg).2.1; have h2 := hg.1; omega)⟩, sub_two 0 rfl⟩
  ·have hsm := h11; refine s_skip ?_; refine s_seq (s_region ?_); refine o_val rfl rfl rfl (y_assign (v := (.slice _ _ _)) rfl) (o_nil ?_); refine s_seq ?_; refine s_block ?_; refine s_group ?_; refine s_loop (γ := G1 × List Int × Nat) (fun g => [(0, .pointer (some ⟨rb, 0, none⟩)), (1, .slice B m d), (6, .int .u64 v1), (8, .slice g.1.A g.2.1.length g.1.c)]) (fun g => [rgrp rb A n c g.2.2, g.1.E]) (fun g => (g.2.1.length : Int) ≤ v1 ∧ OS g.1.A g.2.1.length g.1.c 3 1 (g.2.1.map (.int .i64)) g.1.E ∧ g.2.2 ≤ 8 * n ∧ bodyI bs (8 * n) p xs v1 g.2.2 g.2.1) (fun g => (v1 - g.2.1.length).toNat) ((G1.mk 0 none 0 0 [], [], p3)) ?_ ⟨rfl, rfl, rfl, rfl, trivial⟩ (sub_front ⟨_, rfl⟩) ?_
   ·exact ⟨hv5.1, OS.nil _ _, hp4, body_first (by rw [her0] at hrd6; exact hrd6)⟩
   ·intro g _f hI; obtain ⟨hle, ho, hq, hI⟩ := hI; refine s_seq ?_; refine s_seq (s_region ?_); refine o_val rfl rfl rfl (y_move (v := (.slice _ _ _)) rfl) ?_; refine o_val rfl rfl rfl (y_len Try.runUnderlying22 rfl) ?_; refine o_val rfl rfl rfl (y_conv Try.runUnderlying3 Try.runUnderlying86 rfl (by simp only [inK]; omega)) ?_; refine o_val rfl rfl rfl (y_move (v := (.int _ _)) rfl) ?_; refine o_val rfl rfl rfl (y_lss rfl rfl) (o_nil ?_); refine s_if rfl (fun h12 => ?_) (fun h13 => ?_)
    ·have hlt := h12; refine s_skip ?_; refine s_block ?_; refine s_seq (s_region ?_); refine o_val rfl rfl rfl (y_move (v := (.pointer _)) rfl) ?_; refine o_fn 1 (d := 29) rfl Try.call205 (RNat_c _ A n c g.2.2 bs h.here.down hn hbd hq hsz) rfl ?_; rintro _ _ ⟨v14, er15, p16, rfl, rfl, hp17, hv18, hrd19, hkq20⟩; refine o_val rfl rfl rfl (y_move (v := (.tuple #[(.int _ _), (.int _ _)])) rfl) ?_; refine o_val rfl rfl rfl (y_extract (v := (.int _ _)) rfl rfl) ?_; refine o_val rfl rfl rfl (y_extract (v := (.int _ _)) rfl rfl) ?_; refine o_val rfl rfl rfl (y_assign (v := (.int _ _)) rfl) ?_; refine o_val rfl rfl rfl (y_assign (v := (.int _ _)) rfl) (o_nil ?_); refine s_seq ?_; refine s_seq (s_region ?_); refine o_val rfl rfl rfl (y_move (v := (.int _ _)) rfl) ?_; refine o_val rfl rfl rfl (y_neq rfl rfl) (o_nil ?_); refine s_if rfl (fun h21 => ?_) (fun h22 => ?_)
     ·have her1 := h21; refine s_seq (s_region ?_); refine o_val rfl rfl rfl (y_move (v := (.int _ _)) rfl) ?_; refine o_val rfl rfl rfl (y_assign (v := (.slice _ _ _)) rfl) ?_; refine o_val rfl rfl rfl (y_assign (v := (.int _ _)) rfl) (o_nil ?_); refine s_ret ?_; exact ⟨_, [rgrp rb A n c _, []], res2 rfl rfl rfl, ⟨none, 0, 0, [], [], _, _, rfl, OS.nil _ _, rfl, by simp, by have := hkq20; omega, fun ys hg => absurd hg (body_err hI hlt hrd19 her1 ys)⟩, sub_two 0 rfl⟩
     ·have her1 := Decidable.not_not.1 h22; refine s_skip ?_; refine s_seq ?_; refine s_seq (s_region ?_); refine o_val rfl rfl rfl (y_move (v := (.int _ _)) rfl) ?_; refine o_val rfl rfl rfl (y_move (v := (.int _ _)) rfl) ?_; refine o_val rfl rfl rfl (y_move (v := (.slice _ _ _)) rfl) ?_; refine o_val rfl rfl rfl (y_len Try.runUnderlying22 rfl) ?_; refine o_val rfl rfl rfl (y_conv Try.runUnderlying3 Try.runUnderlying86 rfl (by simp only [inK]; omega)) ?_; refine o_val rfl rfl rfl (y_sub rfl rfl (by simp only [inK]; omega)) ?_; refine o_val rfl rfl rfl (y_gtr rfl rfl) (o_nil ?_); refine s_if rfl (fun h23 => ?_) (fun h24 => ?_)
      ·have hov := h23; refine s_seq (s_region ?_); refine o_val rfl rfl rfl (y_assign (v := (.slice _ _ _)) rfl) ?_; refine o_val rfl rfl rfl (y_assign (v := (.int _ _)) rfl) (o_nil ?_); refine s_ret ?_; exact ⟨_, [rgrp rb A n c _, []], res2 rfl rfl rfl, ⟨none, 0, 0, [], [], _, _, rfl, OS.nil _ _, rfl, by simp, .inr (.inr (.inl rfl)), fun ys hg => absurd hg (body_big hI hlt (er := er15) hrd19 (by omega) ys)⟩, sub_two 0 rfl⟩
      ·have hfit := h24; refine s_skip ?_; refine s_seq ?_; refine s_seq (s_region ?_); refine o_val rfl rfl rfl (y_move (v := (.int _ _)) rfl) ?_; refine o_val rfl rfl rfl (y_move (v := (.int _ _)) rfl) (o_nil ?_); refine s_block ?_; refine s_loop (γ := G1 × List Int) (fun u => [(0, .pointer (some ⟨rb, 0, none⟩)), (1, .slice B m d), (6, .int .u64 v1), (8, .slice u.1.A u.2.length u.1.c), (42, .int .u64 v14), (43, .int .u64 u.1.i)]) (fun u => [rgrp rb A n c p16, u.1.E]) (fun u => (u.1.i : Int) ≤ v14 ∧ u.2.length = g.2.1.length + u.1.i ∧ OS u.1.A u.2.length u.1.c 3 1 (u.2.map (.int .i64)) u.1.E ∧ bodyK bs (8 * n) p xs v1 p16 u.2 (v14.toNat - u.1.i)) (fun u => (v14 - u.1.i).toNat) ((G1.mk 0 g.1.A 0 g.1.c g.1.E, g.2.1)) ?_ ⟨rfl, rfl, rfl, rfl, rfl, rfl, trivial⟩ (sub_front ⟨_, rfl⟩) ?_
       ·exact ⟨hv18.1, rfl, ho, body_K hI hlt hrd19 hv18.1⟩
       ·intro u _f hJ; obtain ⟨hui, hul, ho2, hK⟩ := hJ; refine s_seq (s_region ?_); refine o_val rfl rfl rfl (y_lss rfl rfl) (o_nil ?_); refine s_seq ?_; refine s_if rfl (fun h25 => ?_) (fun h26 => ?_)
        ·refine s_skip ?_; refine s_seq ?_; refine s_block ?_; refine s_region ?_; refine o_val rfl rfl rfl (y_move (v := (.slice _ _ _)) rfl) ?_; refine o_val rfl rfl rfl (y_move (v := (.slice _ _ _)) rfl) ?_; refine o_val rfl rfl rfl (y_move (v := (.slice _ _ _)) rfl) ?_; refine o_val rfl rfl rfl (y_len Try.runUnderlying22 rfl) ?_; refine o_fn 0 (d := 49) rfl Try.call166 (Base_c _ _ _ xs h2.here.down hm u.2.length) rfl ?_; rintro _ _ ⟨rfl, rfl⟩; refine o_lit (vs := [(0, .int _ _)]) rfl rfl (body_k0 _) (fun b27 => ?_); refine o_append (sz := 1) (bytes := 8) (news := [(.int _ _)]) 1 rfl Try.underlying22 Try.type3 rfl rfl rfl rfl rfl ho2 rfl rfl (Src.slice Try.underlying22 (cels_own 2 rfl rfl) rfl (by simp [Value.oneCell']) (by simp)) (by omega) (fun A28 c29 E30 ho31 hn32 => ?_); have ho33 : OS A28 (u.2 ++ [base xs u.2.length]).length c29 3 1 ((u.2 ++ [base xs u.2.length]).map (.int .i64)) E30 := by rw [List.length_append]; simpa using ho31
         clear ho31
         refine o_val rfl rfl rfl (y_assign (v := (.slice _ _ _)) rfl) (o_nil ?_); refine s_region ?_; refine o_val rfl rfl rfl (y_add rfl rfl (by simp only [inK]; omega)) ?_; refine o_val rfl rfl rfl (y_move (v := (.int _ _)) rfl) (o_nil ?_); exact ⟨(G1.mk (u.1.i + 1) A28 0 c29 E30, _), (by first | omega | (dsimp only; omega)), ⟨by dsimp only; omega, by simp only [List.length_append, List.length_singleton]; omega, ho33, body_more (by have e : v14.toNat - u.1.i = v14.toNat - (u.1.i + 1) + 1 := (by omega); rw [e] at hK; exact hK)⟩, ⟨rfl, rfl, rfl, (congrArg (fun k => Value.slice _ k _) (by simp)), rfl, (congrArg (Value.int _) (by dsimp only; omega)), trivial⟩, sub_picks [0, 0] rfl⟩
        ·refine s_exit ?_; refine s_seq ?_; refine s_seq (s_region ?_); have hiv : (u.1.i : Int) = v14 := by omega
         have hr0 : v14.toNat - u.1.i = 0 := by omega
         rw [hr0] at hK; have hq2 := hp17; refine o_val rfl rfl rfl (y_move (v := (.slice _ _ _)) rfl) ?_; refine o_val rfl rfl rfl (y_len Try.runUnderlying22 rfl) ?_; refine o_val rfl rfl rfl (y_conv Try.runUnderlying3 Try.runUnderlying86 rfl (by simp only [inK]; omega)) ?_; refine o_val rfl rfl rfl (y_move (v := (.int _ _)) rfl) ?_; refine o_val rfl rfl rfl (y_eql rfl rfl) (o_nil ?_); refine s_if rfl (fun h34 => ?_) (fun h35 => ?_)
         ·have heq := h34; refine s_exit ?_; refine s_seq (s_region ?_); refine o_val rfl rfl rfl (y_move (v := (.slice _ _ _)) rfl) ?_; refine o_val rfl rfl rfl (y_assign (v := (.slice _ _ _)) rfl) ?_; refine o_val rfl rfl rfl (y_assign (v := (.int _ _)) rfl) (o_nil ?_); refine s_ret ?_; exact ⟨_, [_, _], res2 rfl rfl rfl, ⟨_, _, _, _, _, _, _, rfl, ho2, rfl, by omega, .inl rfl, body_done hK (by omega)⟩, sub_picks [0, 0] rfl⟩
         ·have hne := h35; refine s_skip ?_; refine s_seq (s_region ?_); refine o_val rfl rfl rfl (y_move (v := (.pointer _)) rfl) ?_; refine o_fn 1 (d := 60) rfl Try.call206 (RInt_c _ A n c _ bs h.here.down hn hbd hq2 hsz) rfl ?_; rintro _ _ ⟨v36, er37, p38, rfl, rfl, hp39, hv40, hrd41, hkq42⟩; refine o_val rfl rfl rfl (y_move (v := (.tuple #[(.int _ _), (.int _ _)])) rfl) ?_; refine o_val rfl rfl rfl (y_extract (v := (.int _ _)) rfl rfl) ?_; refine o_val rfl rfl rfl (y_extract (v := (.int _ _)) rfl rfl) ?_; refine o_val rfl rfl rfl (y_assign (v := (.int _ _)) rfl) ?_; refine o_val rfl rfl rfl (y_assign (v := (.int _ _)) rfl) (o_nil ?_); refine s_seq ?_; refine s_seq (s_region ?_); refine o_val rfl rfl rfl (y_move (v := (.int _ _)) rfl) ?_; refine o_val rfl rfl rfl (y_neq rfl rfl) (o_nil ?_); refine s_if rfl (fun h43 => ?_) (fun h44 => ?_)
          ·have her2 := h43; refine s_seq (s_region ?_); refine o_val rfl rfl rfl (y_move (v := (.int _ _)) rfl) ?_; refine o_val rfl rfl rfl (y_assign (v := (.slice _ _ _)) rfl) ?_; refine o_val rfl rfl rfl (y_assign (v := (.int _ _)) rfl) (o_nil ?_); refine s_ret ?_; exact ⟨_, [rgrp rb A n c _, []], res2 rfl rfl rfl, ⟨none, 0, 0, [], [], _, _, rfl, OS.nil _ _, rfl, by simp, by have := hkq42; omega, fun ys hg => absurd hg (body_interr hK (by omega) hrd41 her2 ys)⟩, sub_two 0 rfl⟩
          ·have her2 := Decidable.not_not.1 h44; refine s_skip ?_; refine s_region ?_; refine o_val rfl rfl rfl (y_move (v := (.slice _ _ _)) rfl) ?_; refine o_val rfl rfl rfl (y_move (v := (.slice _ _ _)) rfl) ?_; refine o_val rfl rfl rfl (y_move (v := (.slice _ _ _)) rfl) ?_; refine o_val rfl rfl rfl (y_len Try.runUnderlying22 rfl) ?_; refine o_fn 0 (d := 70) rfl Try.call166 (Base_c _ _ _ xs h2.here.down hm u.2.length) rfl ?_; rintro _ _ ⟨rfl, rfl⟩; refine o_val rfl rfl rfl (y_move (v := (.int _ _)) rfl) ?_; refine o_val rfl rfl rfl (y_add' rfl rfl) ?_; refine o_lit (vs := [(0, .int _ _)]) rfl rfl (body_k0 _) (fun b45 => ?_); refine o_append (sz := 1) (bytes := 8) (news := [(.int _ _)]) 1 rfl Try.underlying22 Try.type3 rfl rfl rfl rfl rfl ho2 rfl rfl (Src.slice Try.underlying22 (cels_own 2 rfl rfl) rfl (by simp [Value.oneCell']) (by simp)) (by omega) (fun A46 c47 E48 ho49 hn50 => ?_); have ho51 : OS A46 (u.2 ++ [IntKind.i64.wrap (base xs u.2.length + v36)]).length c47 3 1 ((u.2 ++ [IntKind.i64.wrap (base xs u.2.length + v36)]).map (.int .i64)) E48 := by rw [List.length_append]; simpa using ho49
           clear ho49
           refine o_val rfl rfl rfl (y_assign (v := (.slice _ _ _)) rfl) (o_nil ?_); exact ⟨(G1.mk 0 A46 0 c47 E48, _, p38), (by simp only [List.length_append, List.length_singleton]; omega), ⟨by simp only [List.length_append, List.length_singleton]; omega, ho51, hp39, body_next hK hne hrd41⟩, ⟨rfl, rfl, rfl, (congrArg (fun k => Value.slice _ k _) (by simp)), trivial⟩, sub_picks [0, 0] rfl⟩
    ·have hend := h13; refine s_exit ?_; refine s_seq (s_region ?_); refine o_val rfl rfl rfl (y_move (v := (.slice _ _ _)) rfl) ?_; refine o_val rfl rfl rfl (y_assign (v := (.slice _ _ _)) rfl) ?_; refine o_val rfl rfl rfl (y_assign (v := (.int _ _)) rfl) (o_nil ?_); refine s_ret ?_; exact ⟨_, [_, _], res2 rfl rfl rfl, ⟨_, _, _, _, _, _, _, rfl, ho, rfl, by omega, .inl rfl, body_end hI (by omega)⟩, sub_picks [0, 0] rfl⟩

end Go.Proofs.Ytacmbiohjiogiaa.K
end
section
namespace Go.Proofs.Ytacmbiohjiogiaa.K
open Go.RowKit

end Go.Proofs.Ytacmbiohjiogiaa.K
end
section
set_option linter.unusedVariables false
set_option linter.unusedSimpArgs false
set_option maxRecDepth 100000
namespace Go.Proofs.Ytacmbiohjiogiaa.K
open Go.RowKit

end Go.Proofs.Ytacmbiohjiogiaa.K
end
section
set_option linter.unusedVariables false
set_option linter.unusedSimpArgs false
set_option maxRecDepth 100000
namespace Go.Proofs.Ytacmbiohjiogiaa.K
open Go.RowKit

end Go.Proofs.Ytacmbiohjiogiaa.K
end
section
set_option linter.unusedVariables false
set_option linter.unusedSimpArgs false
set_option maxRecDepth 100000
namespace Go.Proofs.Ytacmbiohjiogiaa.K
open Go.RowKit

end Go.Proofs.Ytacmbiohjiogiaa.K
end
section
set_option linter.unusedVariables false
set_option linter.unusedSimpArgs false
set_option maxRecDepth 100000
namespace Go.Proofs.Ytacmbiohjiogiaa.K
open Go.RowKit

end Go.Proofs.Ytacmbiohjiogiaa.K
end
section
set_option linter.unusedVariables false
set_option linter.unusedSimpArgs false
set_option maxRecDepth 100000
namespace Go.Proofs.Ytacmbiohjiogiaa.K
open Go.RowKit

/-- Bytes that hold the difference of a list. -/
def BGood (xs bs ys : List Int) : Prop := xs.length ≤ 65536 ∧ ys.length ≤ 65536 ∧ (∀ y ∈ ys, inK .i64 y) ∧ Wr bs (dAll (sumI xs) (sumI ys) xs ys) ∧ (dAll (sumI xs) (sumI ys) xs ys).length ≤ 524288
/-- What Back answers. -/
def bkOK (xs bs zs : List Int) (er : Int) : Prop :=
 (er = 0 → xs.length ≤ 65536 ∧ zs.length ≤ 65536 ∧ (dAll (sumI xs) (sumI zs) xs zs).length ≤ 524288 ∧ Wr bs (dAll (sumI xs) (sumI zs) xs zs)) ∧ (¬ er = 0 → zs = []) ∧ (∀ ys, BGood xs bs ys → er = 0 ∧ zs = ys) ∧ (er = 0 ∨ er = 14 ∨ er = 13 ∨ er = 3 ∨ er = 2) ∧ (xs.length ≤ 65536 → bs.length < 8 → er = 14)
theorem wr_at {bs : List Int} {l : List Bool} (h : Wr bs l) : bitsAt bs (8 * bs.length) 0 l := by
 have h1 := h.1; refine ⟨by omega, fun j hj => ?_⟩; rw [Nat.zero_add]; exact h.bit (by omega)
theorem num64 {bs : List Int} {N p : Nat} {v : Int} (hv : 0 ≤ v ∧ v ≤ 18446744073709551615) (h : bitsAt bs N p (bitsOf v 64)) : (num bs p 64 : Int) = v :=
 num_of ⟨hv.1, by omega⟩ fun i hi => by rw [h.2 i (by rw [bitsOf_len]; exact hi), bitsOf_getD hi]
theorem BG_parts {xs bs ys : List Int} (h : BGood xs bs ys) : 128 ≤ 8 * bs.length ∧ (num bs 0 64 : Int) = sumI xs ∧ (num bs 64 64 : Int) = sumI ys ∧ Good bs (8 * bs.length) 128 xs ys := by
 obtain ⟨h1, h2, h3, h4, h5⟩ := h; have ha := wr_at h4; unfold dAll dHead at ha; have a1 : bitsAt bs (8 * bs.length) 0 ([] ++ bitsOf (sumI xs) 64 ++ (bitsOf (sumI ys) 64 ++ full xs ys)) := by unfold full; simpa only [List.append_assoc, List.nil_append] using ha
 have a2 : bitsAt bs (8 * bs.length) 0 (bitsOf (sumI xs) 64 ++ bitsOf (sumI ys) 64 ++ full xs ys) := by unfold full; simpa only [List.append_assoc] using ha
 have a3 : bitsAt bs (8 * bs.length) 0 ((bitsOf (sumI xs) 64 ++ bitsOf (sumI ys) 64) ++ full xs ys ++ []) := by rw [List.append_nil]; exact a2
 have m1 := bitsAt_mid a1; have m2 := bitsAt_mid a2; have m3 := bitsAt_mid a3; simp only [List.length_nil, List.length_append, bitsOf_len, Nat.zero_add] at m1 m2 m3; refine ⟨?_, num64 (sumI_bd _) m1, num64 (sumI_bd _) m2, h2, h3, m3⟩; have := m2.1; rw [bitsOf_len] at this; omega
theorem in_zero {xs ys bs : List Int} {er : Int} (h : inOK xs ys bs er) (he : er = 0) : xs.length ≤ 65536 ∧ ys.length ≤ 65536 ∧ (dAll (sumI xs) (sumI ys) xs ys).length ≤ 524288 ∧ Wr bs (dAll (sumI xs) (sumI ys) xs ys) := by
 rcases h with h | h
 ·exact h.2
 ·rw [h.1] at he; cases he
theorem in_good {xs ys bs ibs : List Int} {er : Int} (h : inOK xs ys ibs er) (hg : BGood xs bs ys) : er = 0 ∧ ibs = bs := by
 rcases h with h | h
 ·exact ⟨h.1, h.2.2.2.2.unique hg.2.2.2.1⟩
 ·exact absurd ⟨hg.1, hg.2.1, hg.2.2.2.2⟩ h.2.2

theorem Back_c {V : Mem} (A : Option Addr) (n c : Nat) (xs : List Int) (h : Cels V [] A (xs.map (.int .i64))) (hn : xs.length = n) (B : Option Addr) (m d : Nat) (bs : List Int) (h' : Cels V [] B (bs.map (.int .u8))) (hm : bs.length = m) (hbd : ∀ b ∈ bs, 0 ≤ b ∧ b ≤ 255) (hsz : m ≤ 140737488355328) :
  CallS Try.prog 117 [.slice A n c, .slice B m d].toArray V [] (fun r L' => ∃ R k e zs G er, r = .tuple #[.slice R k e, .int .i64 er] ∧ OS R k e 3 1 (zs.map (.int .i64)) G ∧ L' = [G] ∧ bkOK xs bs zs er) := by
 refine callS Try.func117 rfl rfl (fun w0 => ?_); refine s_seq (s_region ?_); refine o_val rfl rfl rfl (y_assign (v := (.slice _ _ _)) rfl) ?_; refine o_val rfl rfl rfl (y_assign (v := (.int _ _)) rfl) (o_nil ?_); refine s_seq ?_; refine s_seq (s_region ?_); refine o_val rfl rfl rfl (y_move (v := (.slice _ _ _)) rfl) ?_; refine o_val rfl rfl rfl (y_len Try.runUnderlying22 rfl) ?_; refine o_val rfl rfl rfl (y_gtr rfl rfl) (o_nil ?_); refine s_if rfl (fun h1 => ?_) (fun h2 => ?_)
 ·have hbig := h1; refine s_seq (s_region ?_); refine o_val rfl rfl rfl (y_assign (v := (.slice _ _ _)) rfl) ?_; refine o_val rfl rfl rfl (y_assign (v := (.int _ _)) rfl) (o_nil ?_); refine s_ret ?_; exact ⟨_, [[]], res2 rfl rfl rfl, ⟨none, 0, 0, [], [], _, rfl, OS.nil _ _, rfl, (fun e => absurd e (by decide)), (fun _ => rfl), (fun ys hg => absurd hg (fun hg => by
   have := hg.1; omega)), by decide, fun hh => by omega⟩, sub_none⟩
 ·have hsm := h2; refine s_skip ?_; refine s_seq (s_region ?_); refine o_val rfl rfl rfl (y_move (v := (.slice _ _ _)) rfl) ?_; refine o_fn 0 (d := 17) rfl Try.call171 (NewR_c _ m _ bs h'.here.down hm hsz) rfl ?_; rintro _ _ ⟨rb, RB, re, RG, rfl, hRG, rfl⟩; refine o_val rfl rfl rfl (y_assign (v := (.pointer _)) rfl) (o_nil ?_); refine s_seq (s_region ?_); refine o_val rfl rfl rfl (y_move (v := (.pointer _)) rfl) ?_; refine o_fn 1 (d := 20) rfl Try.call172 (Get_c _ RB m re 0 bs (hRG.cels (j := 0) rfl).down hm hbd (Nat.zero_le _) hsz 64 (by omega)) rfl ?_; rintro _ _ ⟨rfl, rfl⟩; refine o_val rfl rfl rfl (y_move (v := (.tuple #[(.int _ _), (.int _ _)])) rfl) ?_; refine o_val rfl rfl rfl (y_extract (v := (.int _ _)) rfl rfl) ?_; refine o_val rfl rfl rfl (y_extract (v := (.int _ _)) rfl rfl) ?_; refine o_val rfl rfl rfl (y_assign (v := (.int _ _)) rfl) ?_; refine o_val rfl rfl rfl (y_assign (v := (.int _ _)) rfl) (o_nil ?_); refine s_seq ?_; refine s_seq (s_region ?_); refine o_val rfl rfl rfl (y_move (v := (.int _ _)) rfl) ?_; refine o_val rfl rfl rfl (y_neq rfl rfl) (o_nil ?_); refine s_if rfl (fun h3 => ?_) (fun h4 => ?_)
  ·have hlt : 8 * m < 0 + 64 := by unfold ge at h3; split at h3 <;> first | assumption | exact absurd rfl h3
   refine s_seq (s_region ?_); refine o_val rfl rfl rfl (y_assign (v := (.slice _ _ _)) rfl) ?_; refine o_val rfl rfl rfl (y_assign (v := (.int _ _)) rfl) (o_nil ?_); refine s_ret ?_; exact ⟨_, [[]], res2 rfl rfl rfl, ⟨none, 0, 0, [], [], _, rfl, OS.nil _ _, rfl, (fun e => absurd e (by decide)), (fun _ => rfl), (fun ys hg => absurd hg (fun hg => by
    obtain ⟨q1, q2, q3, q4⟩ := BG_parts hg; omega)), by decide, fun _ _ => rfl⟩, sub_none⟩
  ·have hge1 : ¬ 8 * m < 0 + 64 := by have he := Decidable.not_not.1 h4; unfold ge at he; split at he <;> first | assumption | exact absurd he (by decide)
   have hp1 : gp (8 * m) 0 64 = 64 := by unfold gp; rw [if_neg hge1]
   have hv1 : gv bs (8 * m) 0 64 = num bs 0 64 := by unfold gv; rw [if_neg hge1]
   refine s_skip ?_; refine s_seq ?_; refine s_seq (s_region ?_); refine o_val rfl rfl rfl (y_move (v := (.int _ _)) rfl) ?_; refine o_val rfl rfl rfl (y_move (v := (.slice _ _ _)) rfl) ?_; refine o_fn 0 (d := 27) rfl Try.call42 (SumInts_c _ _ _ xs h.here.down hn (by omega)) rfl ?_; rintro _ _ ⟨rfl, rfl⟩; refine o_val rfl rfl rfl (y_neq rfl rfl) (o_nil ?_); refine s_if rfl (fun h5 => ?_) (fun h6 => ?_)
   ·have hne1 := h5; refine s_seq (s_region ?_); refine o_val rfl rfl rfl (y_assign (v := (.slice _ _ _)) rfl) ?_; refine o_val rfl rfl rfl (y_assign (v := (.int _ _)) rfl) (o_nil ?_); refine s_ret ?_; exact ⟨_, [[]], res2 rfl rfl rfl, ⟨none, 0, 0, [], [], _, rfl, OS.nil _ _, rfl, (fun e => absurd e (by decide)), (fun _ => rfl), (fun ys hg => absurd hg (fun hg => by
     obtain ⟨q1, q2, q3, q4⟩ := BG_parts hg; exact hne1 (by rw [hv1]; exact q2))), by decide, fun _ hh => by omega⟩, sub_none⟩
   ·have heq1 := h6; refine s_skip ?_; refine s_seq (s_region ?_); refine o_val rfl rfl rfl (y_move (v := (.pointer _)) rfl) ?_; refine o_fn 1 (d := 31) rfl Try.call172 (Get_c _ RB m re (gp (8 * m) 0 64) bs (hRG.cels (j := 0) rfl).down hm hbd (gp_le (Nat.zero_le _)) hsz 64 (by omega)) rfl ?_; rintro _ _ ⟨rfl, rfl⟩; refine o_val rfl rfl rfl (y_move (v := (.tuple #[(.int _ _), (.int _ _)])) rfl) ?_; refine o_val rfl rfl rfl (y_extract (v := (.int _ _)) rfl rfl) ?_; refine o_val rfl rfl rfl (y_extract (v := (.int _ _)) rfl rfl) ?_; refine o_val rfl rfl rfl (y_assign (v := (.int _ _)) rfl) ?_; refine o_val rfl rfl rfl (y_assign (v := (.int _ _)) rfl) (o_nil ?_); refine s_seq ?_; refine s_seq (s_region ?_); refine o_val rfl rfl rfl (y_move (v := (.int _ _)) rfl) ?_; refine o_val rfl rfl rfl (y_neq rfl rfl) (o_nil ?_); refine s_if rfl (fun h7 => ?_) (fun h8 => ?_)
    ·have hlt : 8 * m < 64 + 64 := by rw [hp1] at h7; unfold ge at h7; split at h7 <;> first | assumption | exact absurd rfl h7
     refine s_seq (s_region ?_); refine o_val rfl rfl rfl (y_assign (v := (.slice _ _ _)) rfl) ?_; refine o_val rfl rfl rfl (y_assign (v := (.int _ _)) rfl) (o_nil ?_); refine s_ret ?_; exact ⟨_, [[]], res2 rfl rfl rfl, ⟨none, 0, 0, [], [], _, rfl, OS.nil _ _, rfl, (fun e => absurd e (by decide)), (fun _ => rfl), (fun ys hg => absurd hg (fun hg => by
      obtain ⟨q1, q2, q3, q4⟩ := BG_parts hg; omega)), by decide, fun _ _ => rfl⟩, sub_none⟩
    ·have hge2 : ¬ 8 * m < 64 + 64 := by have he := Decidable.not_not.1 h8; rw [hp1] at he; unfold ge at he; split at he <;> first | assumption | exact absurd he (by decide)
     have hp2 : gp (8 * m) (gp (8 * m) 0 64) 64 = 128 := by rw [hp1]; unfold gp; rw [if_neg hge2]
     have hv2 : gv bs (8 * m) (gp (8 * m) 0 64) 64 = num bs 64 64 := by rw [hp1]; unfold gv; rw [if_neg hge2]
     refine s_skip ?_; refine s_seq (s_region ?_); refine o_val rfl rfl rfl (y_move (v := (.pointer _)) rfl) ?_; refine o_val rfl rfl rfl (y_move (v := (.slice _ _ _)) rfl) ?_; refine o_fn 1 (d := 39) rfl Try.call173 (body_c _ RB m re (gp (8 * m) (gp (8 * m) 0 64) 64) bs (hRG.cels (j := 0) rfl).down hm hbd (gp_le (gp_le (Nat.zero_le _))) hsz _ _ _ xs h.here.down hn) rfl ?_; rintro _ _ ⟨zR, zk, ze, zs, zG, zer, zp, rfl, hzo, rfl, hzl, hzv, hbody⟩; refine o_val rfl rfl rfl (y_move (v := (.tuple #[(.slice _ _ _), (.int _ _)])) rfl) ?_; refine o_val rfl rfl rfl (y_extract (v := (.slice _ _ _)) rfl rfl) ?_; refine o_val rfl rfl rfl (y_extract (v := (.int _ _)) rfl rfl) ?_; refine o_val rfl rfl rfl (y_assign (v := (.slice _ _ _)) rfl) ?_; refine o_val rfl rfl rfl (y_assign (v := (.int _ _)) rfl) (o_nil ?_); refine s_seq ?_; refine s_seq (s_region ?_); refine o_val rfl rfl rfl (y_move (v := (.int _ _)) rfl) ?_; refine o_val rfl rfl rfl (y_neq rfl rfl) (o_nil ?_); refine s_if rfl (fun h9 => ?_) (fun h10 => ?_)
     ·have hbe := h9; refine s_seq (s_region ?_); refine o_val rfl rfl rfl (y_move (v := (.int _ _)) rfl) ?_; refine o_val rfl rfl rfl (y_assign (v := (.slice _ _ _)) rfl) ?_; refine o_val rfl rfl rfl (y_assign (v := (.int _ _)) rfl) (o_nil ?_); refine s_ret ?_; exact ⟨_, [[]], res2 rfl rfl rfl, ⟨none, 0, 0, [], [], _, rfl, OS.nil _ _, rfl, (fun e => absurd e (hbe)), (fun _ => rfl), (fun ys hg => absurd hg (fun hg => by
       obtain ⟨q1, q2, q3, q4⟩ := BG_parts hg; rw [hm, ← hp2] at q4; exact hbe (hbody ys q4).1)), by omega, fun _ hh => by omega⟩, sub_none⟩
     ·have hbe := Decidable.not_not.1 h10; refine s_skip ?_; refine s_seq ?_; refine s_seq (s_region ?_); have hzk : zs.length = zk := by simpa using hzo.len
      refine o_val rfl rfl rfl (y_move (v := (.slice _ _ _)) rfl) ?_; refine o_fn 0 (d := 46) rfl Try.call42 (SumInts_c _ _ _ zs (hzo.cels (j := 1) rfl).down (by simpa using hzo.len) (by omega)) rfl ?_; rintro _ _ ⟨rfl, rfl⟩; refine o_val rfl rfl rfl (y_move (v := (.int _ _)) rfl) ?_; refine o_val rfl rfl rfl (y_neq rfl rfl) (o_nil ?_); refine s_if rfl (fun h11 => ?_) (fun h12 => ?_)
      ·have hne2 := h11; refine s_seq (s_region ?_); refine o_val rfl rfl rfl (y_assign (v := (.slice _ _ _)) rfl) ?_; refine o_val rfl rfl rfl (y_assign (v := (.int _ _)) rfl) (o_nil ?_); refine s_ret ?_; exact ⟨_, [[]], res2 rfl rfl rfl, ⟨none, 0, 0, [], [], _, rfl, OS.nil _ _, rfl, (fun e => absurd e (by decide)), (fun _ => rfl), (fun ys hg => absurd hg (fun hg => by
        obtain ⟨q1, q2, q3, q4⟩ := BG_parts hg; rw [hm, ← hp2] at q4; have e := (hbody ys q4).2; exact hne2 (by rw [hv2, e]; exact q3.symm))), by decide, fun _ hh => by omega⟩, sub_none⟩
      ·have heq2 := h12; refine s_skip ?_; refine s_seq ?_; refine s_seq (s_region ?_); refine o_val rfl rfl rfl (y_move (v := (.slice _ _ _)) rfl) ?_; refine o_val rfl rfl rfl (y_move (v := (.slice _ _ _)) rfl) ?_; refine o_fn 0 (d := 52) rfl Try.call109 (Ints_c _ _ _ xs h.here.down hn _ _ _ zs (hzo.cels (j := 1) rfl).down (by simpa using hzo.len)) rfl ?_; rintro _ _ ⟨iR, ik, ie, ibs, iG, ier, rfl, hio, rfl, hin⟩; refine o_val rfl rfl rfl (y_move (v := (.tuple #[(.slice _ _ _), (.int _ _)])) rfl) ?_; refine o_val rfl rfl rfl (y_extract (v := (.slice _ _ _)) rfl rfl) ?_; refine o_val rfl rfl rfl (y_extract (v := (.int _ _)) rfl rfl) ?_; refine o_val rfl rfl rfl (y_assign (v := (.slice _ _ _)) rfl) ?_; refine o_val rfl rfl rfl (y_assign (v := (.int _ _)) rfl) (o_nil ?_); refine s_seq (s_region ?_); refine o_val rfl rfl rfl (y_move (v := (.int _ _)) rfl) ?_; refine o_split rfl rfl rfl (y_neq rfl rfl) (fun p13 => ?_) (fun p14 => ?_)
       ·have hie := p13; refine o_val rfl rfl rfl (y_move (v := (.bool _)) rfl) ?_; refine o_guard_no rfl rfl rfl rfl rfl ?_; refine o_guard_no rfl rfl rfl rfl rfl ?_; refine o_guard_no rfl rfl rfl rfl rfl ?_; refine o_guard_no rfl rfl rfl rfl rfl ?_; refine o_val rfl rfl rfl (y_pick_t (v := (.bool _)) rfl rfl) (o_nil ?_); refine s_then rfl ?_; refine s_seq (s_region ?_); refine o_val rfl rfl rfl (y_assign (v := (.slice _ _ _)) rfl) ?_; refine o_val rfl rfl rfl (y_assign (v := (.int _ _)) rfl) (o_nil ?_); refine s_ret ?_; exact ⟨_, [[]], res2 rfl rfl rfl, ⟨none, 0, 0, [], [], _, rfl, OS.nil _ _, rfl, (fun e => absurd e (by decide)), (fun _ => rfl), (fun ys hg => absurd hg (fun hg => by
         obtain ⟨q1, q2, q3, q4⟩ := BG_parts hg; rw [hm, ← hp2] at q4; have e := (hbody ys q4).2; rw [← e] at hg; exact hie (in_good hin hg).1)), by decide, fun _ hh => by omega⟩, sub_none⟩
       ·have hie := Decidable.not_not.1 p14; refine o_val rfl rfl rfl (y_move (v := (.bool _)) rfl) ?_; refine o_guard_yes rfl rfl ?_; refine o_val rfl rfl rfl (y_move (v := (.slice _ _ _)) rfl) ?_; refine o_guard_yes rfl rfl ?_; refine o_val rfl rfl rfl (y_move (v := (.slice _ _ _)) rfl) ?_; refine o_guard_yes rfl rfl ?_; refine o_fn 0 (d := 60) rfl Try.call40 (BEqual_c _ _ _ ibs (hio.cels (j := 0) rfl).down (by simpa using hio.len) (in_zero hin hie).2.2.2.2.1 _ _ _ bs h'.here.down hm hbd) rfl ?_; rintro _ _ ⟨rfl, rfl⟩; refine o_guard_yes rfl rfl ?_; refine o_val rfl rfl rfl (y_not rfl) ?_; refine o_val rfl rfl rfl (y_pick_f (v := (.bool _)) rfl rfl) (o_nil ?_); refine s_if rfl (fun h15 => ?_) (fun h16 => ?_)
        ·have hdf := h15; refine s_seq (s_region ?_); refine o_val rfl rfl rfl (y_assign (v := (.slice _ _ _)) rfl) ?_; refine o_val rfl rfl rfl (y_assign (v := (.int _ _)) rfl) (o_nil ?_); refine s_ret ?_; exact ⟨_, [[]], res2 rfl rfl rfl, ⟨none, 0, 0, [], [], _, rfl, OS.nil _ _, rfl, (fun e => absurd e (by decide)), (fun _ => rfl), (fun ys hg => absurd hg (fun hg => by
          obtain ⟨q1, q2, q3, q4⟩ := BG_parts hg; rw [hm, ← hp2] at q4; have e := (hbody ys q4).2; rw [← e] at hg; exact hdf (in_good hin hg).2)), by decide, fun _ hh => by omega⟩, sub_none⟩
        ·have hdf := Decidable.not_not.1 h16; refine s_skip ?_; refine s_seq (s_region ?_); refine o_val rfl rfl rfl (y_move (v := (.slice _ _ _)) rfl) ?_; refine o_val rfl rfl rfl (y_assign (v := (.slice _ _ _)) rfl) ?_; refine o_val rfl rfl rfl (y_assign (v := (.int _ _)) rfl) (o_nil ?_); refine s_ret ?_; exact ⟨_, [zG], res2 rfl rfl rfl, ⟨_, _, _, zs, _, _, rfl, hzo, rfl, (fun _ => by
          have hz := in_zero hin hie; rw [hdf] at hz; exact hz), (fun hh => absurd rfl hh), (fun ys hg => by
          obtain ⟨q1, q2, q3, q4⟩ := BG_parts hg; rw [hm, ← hp2] at q4; exact ⟨rfl, (hbody ys q4).2⟩), .inl rfl, fun _ hh => by omega⟩, sub_picks [2] rfl⟩

end Go.Proofs.Ytacmbiohjiogiaa.K
end
section
set_option linter.unusedVariables false
set_option linter.unusedSimpArgs false
set_option maxRecDepth 100000
set_option maxHeartbeats 2000000
namespace Go.Proofs.Ytacmbiohjiogiaa.K
open Go.RowKit

/-- A contact of two bodies. -/
structure CoR where
 a : Int
 b : Int
 id : Int
 px : Int
 py : Int
 nx : Int
 ny : Int
 de : Int
 pu : Int
 sl : Int
instance : Inhabited CoR := ⟨⟨0, 0, 0, 0, 0, 0, 0, 0, 0, 0⟩⟩
def encCo (c : CoR) : List Value := [.int .i64 c.a, .int .i64 c.b, .int .i64 c.id, .int .i64 c.px, .int .i64 c.py, .int .i64 c.nx, .int .i64 c.ny, .int .i64 c.de, .int .i64 c.pu, .int .i64 c.sl]
theorem encCo_len (c : CoR) : (encCo c).length = 10 := rfl
/-- What a script of an entity has kept. -/
structure MiR where
 e : Int
 g : Int
 p : Int
 A : Option Addr
 n : Nat
 c : Nat
 vs : List Int
instance : Inhabited MiR := ⟨⟨0, 0, 0, none, 0, 0, []⟩⟩
def encMi (m : MiR) : List Value := [.int .i64 m.e, .int .i64 m.g, .int .i64 m.p, .slice m.A m.n m.c]
theorem encMi_len (m : MiR) : (encMi m).length = 4 := rfl
def MOK (V : Mem) (m : MiR) : Prop := m.vs.length = m.n ∧ m.n ≤ m.c ∧ m.n ≤ 17592186044416 ∧ Cels V [] m.A (m.vs.map (.int .i64))
structure EvR where
 s : Int
 e : Int
 g : Int
 v : Int
instance : Inhabited EvR := ⟨⟨0, 0, 0, 0⟩⟩
def encEv (e : EvR) : List Value := [.int .i64 e.s, .int .i64 e.e, .int .i64 e.g, .int .i64 e.v]
theorem encEv_len (e : EvR) : (encEv e).length = 4 := rfl
/-- A state, and where its parts lie. -/
structure StR where
 tick : Int
 w : WR
 cA : Option Addr
 cn : Nat
 cc : Nat
 cs : List CoR
 mA : Option Addr
 mn : Nat
 mc : Nat
 ms : List MiR
 eA : Option Addr
 en : Nat
 ec : Nat
 es : List EvR
def StOK (V : Mem) (s : StR) : Prop := WOK V s.w ∧ (s.cs.length = s.cn ∧ s.cn ≤ s.cc ∧ s.cn ≤ 1759218604441 ∧ Cels V [] s.cA (s.cs.flatMap encCo)) ∧ (s.ms.length = s.mn ∧ s.mn ≤ s.mc ∧ s.mn ≤ 2932031007402 ∧ Cels V [] s.mA (s.ms.flatMap encMi) ∧ ∀ x ∈ s.ms, MOK V x) ∧ (s.es.length = s.en ∧ s.en ≤ s.ec ∧ s.en ≤ 4398046511104 ∧ Cels V [] s.eA (s.es.flatMap encEv))
theorem MOK.sub {V V' : Mem} {c : MiR} (h : MOK V c) (hm : MSub V V') : MOK V' c := ⟨h.1, h.2.1, h.2.2.1, h.2.2.2.ms hm⟩
theorem StOK.sub {V V' : Mem} {s : StR} (h : StOK V s) (hm : MSub V V') : StOK V' s := ⟨h.1.sub hm, ⟨h.2.1.1, h.2.1.2.1, h.2.1.2.2.1, h.2.1.2.2.2.ms hm⟩, ⟨h.2.2.1.1, h.2.2.1.2.1, h.2.2.1.2.2.1, h.2.2.1.2.2.2.1.ms hm, fun x hx => (h.2.2.1.2.2.2.2 x hx).sub hm⟩, ⟨h.2.2.2.1, h.2.2.2.2.1, h.2.2.2.2.2.1, h.2.2.2.2.2.2.ms hm⟩⟩
/-- The numbers of a state. -/
def flT (s : ByteArray) : List Int := (s.size : Int) :: bts s
def flF (f : FR) : List Int := flT f.name ++ [f.bits, f.low]
def flK (k : KR) : List Int := flT k.name ++ (k.n : Int) :: k.fs.flatMap flF
def flC (c : CR) : List Int := c.kind :: (c.n : Int) :: c.vs
def flI (i : IR) : List Int := i.e :: i.g :: (i.n : Int) :: i.cs.flatMap flC
def flW (w : WR) : List Int := (w.kn : Int) :: (w.ks.flatMap flK ++ (w.gn : Int) :: (w.gs ++ (w.iN : Int) :: w.its.flatMap flI))
def flCo (c : CoR) : List Int := [c.a, c.b, c.id, c.px, c.py, c.nx, c.ny, c.de, c.pu, c.sl]
def flM (m : MiR) : List Int := m.e :: m.g :: m.p :: (m.n : Int) :: m.vs
def flE (e : EvR) : List Int := [e.s, e.e, e.g, e.v]
def flS (s : StR) : List Int := s.tick :: (flW s.w ++ (s.cn : Int) :: (s.cs.flatMap flCo ++ (s.mn : Int) :: (s.ms.flatMap flM ++ (s.en : Int) :: s.es.flatMap flE)))
/-- The first of a list's parts. -/
def tk {α : Type} (f : α → List Int) (xs : List α) (k : Nat) : List Int := (xs.take k).flatMap f
theorem tk_zero {α : Type} {f : α → List Int} {xs : List α} : tk f xs 0 = [] := rfl
theorem tk_succ {α : Type} {f : α → List Int} {d : α} : ∀ {xs : List α} {k : Nat}, k < xs.length → tk f xs (k + 1) = tk f xs k ++ f (xs.getD k d)
 | [], k, h => absurd h (Nat.not_lt_zero k)
 | x :: xs, 0, _ => by simp [tk]
 | x :: xs, k + 1, h => by
  have := tk_succ (f := f) (d := d) (xs := xs) (k := k) (by simpa using h); simp only [tk, List.take_succ_cons, List.flatMap_cons, List.append_assoc] at this ⊢; rw [this]; rfl
theorem tk_all {α : Type} {f : α → List Int} {xs : List α} {k : Nat} (h : k = xs.length) : tk f xs k = xs.flatMap f := by unfold tk; rw [h, List.take_length]
theorem tk_add {α : Type} {f : α → List Int} {d : α} : ∀ {xs : List α} {k : Nat}, k < xs.length → (tk f xs k).length + (f (xs.getD k d)).length ≤ (xs.flatMap f).length
 | [], k, h => absurd h (Nat.not_lt_zero k)
 | x :: xs, 0, _ => by simp [tk]
 | x :: xs, k + 1, h => by
  have := tk_add (f := f) (d := d) (xs := xs) (k := k) (by simpa using h); simp only [tk, List.take_succ_cons, List.flatMap_cons, List.length_append, List.getD_cons_succ] at this ⊢; omega
theorem tk_le {α : Type} {f : α → List Int} {xs : List α} {k : Nat} : (tk f xs k).length ≤ (xs.flatMap f).length := by
 have h := congrArg List.length (congrArg (List.flatMap f) (List.take_append_drop k xs)); rw [List.flatMap_append, List.length_append] at h; unfold tk; omega
theorem flT_len (s : ByteArray) : (flT s).length = s.size + 1 := by simp [flT, bts_len]
theorem flF_len (f : FR) : (flF f).length = f.name.size + 3 := by simp [flF, flT_len]
theorem flK_len (k : KR) : (flK k).length = k.name.size + 2 + (k.fs.flatMap flF).length := by simp only [flK, flT_len, List.length_append, List.length_cons]; omega
theorem flC_len (c : CR) : (flC c).length = c.vs.length + 2 := rfl
theorem flI_len (i : IR) : (flI i).length = (i.cs.flatMap flC).length + 3 := rfl
theorem flM_len (m : MiR) : (flM m).length = m.vs.length + 4 := rfl
theorem flS_len (s : StR) : (flS s).length = 7 + (s.w.ks.flatMap flK).length + s.w.gs.length + (s.w.its.flatMap flI).length + (s.cs.flatMap flCo).length + (s.ms.flatMap flM).length + (s.es.flatMap flE).length := by
 simp only [flS, flW, List.length_append, List.length_cons]; omega
theorem tkg {α : Type} {d : α} : ∀ {xs : List α} {k : Nat}, k < xs.length → xs.take (k + 1) = xs.take k ++ [xs.getD k d]
 | [], k, h => absurd h (Nat.not_lt_zero k)
 | x :: xs, 0, _ => by simp
 | x :: xs, k + 1, h => by
  have := tkg (d := d) (xs := xs) (k := k) (by simpa using h); simp only [List.take_succ_cons, this, List.getD_cons_succ, List.cons_append]
structure LT1 where
 i : Nat
 n : Nat
 A : Option Addr
 c : Nat
 E : Grp

theorem Text_k0 (v0 : Int) (w : World) : (Instr.buildSlice 22 1 ([(0, (.int .i64 v0))] : List (Nat × Value)).toArray).run Try.prog w = .ok (.slice (some ⟨w.heap.size, 0, none⟩) 1 1) { w with heap := w.heap.push (.cells ([.int .i64 v0] : List Value).toArray 3 (0, 0)) } := by kernel_rfl
theorem Text_c {V : Mem} (A : Option Addr) (n c : Nat) (xs : List Int) (E : Grp) (hos : OS A n c 3 1 ((xs).map (.int .i64)) E) (s : ByteArray) (hb : n + s.size ≤ 17592186044400) : CallS Try.prog 169 [.slice A n c, .string s].toArray V [E] (fun r L' => ∃ (A' : Option Addr) (c' : Nat) (E' : Grp), r = .slice A' (n + 1 + s.size) c' ∧ OS A' (n + 1 + s.size) c' 3 1 ((xs ++ flT s).map (.int .i64)) E' ∧ L' = [E']) := by
 refine callS Try.func169 rfl rfl (fun w0 => ?_); refine s_seq (s_region ?_); refine o_val rfl rfl rfl (y_assign (v := (.slice _ _ _)) rfl) (o_nil ?_); refine s_seq (s_region ?_); refine o_val rfl rfl rfl (y_move (v := (.slice _ _ _)) rfl) ?_; refine o_val rfl rfl rfl (y_move (v := (.string _)) rfl) ?_; refine o_val rfl rfl rfl (y_len_str Try.runUnderlying9 rfl) ?_; refine o_lit (vs := [(0, .int _ _)]) rfl rfl (Text_k0 _) (fun b1 => ?_); refine o_append (sz := 1) (bytes := 8) (news := [(.int _ _)]) 0 rfl Try.underlying22 Try.type3 rfl rfl rfl rfl rfl hos rfl rfl (Src.slice Try.underlying22 (cels_own 1 rfl rfl) rfl (by simp [Value.oneCell']) (by simp)) (by omega) (fun A2 c3 E4 ho5 hn6 => ?_); have ho7 : OS A2 (n + 1) c3 3 1 ((xs ++ (s.size : Int) :: (bts s).take 0).map (.int .i64)) E4 := (os_eq ho5 (by rw [List.map_append]; rfl))
 clear ho5
 refine o_val rfl rfl rfl (y_assign (v := (.slice _ _ _)) rfl) (o_nil ?_); refine s_norm [_, [(_, .cells [(.int _ _)].toArray 3 (0, 0))]] rfl ?_; refine s_seq ?_; refine s_seq (s_region ?_); refine o_val rfl rfl rfl (y_move (v := (.string _)) rfl) ?_; refine o_strb rfl Try.underlying9 Try.underlying76 Try.underlying5 rfl (fun A8 c9 bs hbs => ?_); refine o_val rfl rfl rfl (y_len Try.runUnderlying76 rfl) ?_; refine o_val rfl rfl rfl (y_move (v := (.int _ _)) rfl) (o_nil ?_); refine s_block ?_; refine s_loopK (γ := LT1) [(4, (.slice _ _ _)), (13, (.slice _ _ _)), (14, (.int _ _))] [_] (fun g => [(0, .slice g.A g.n g.c), (15, .int .i64 g.i)]) (fun g => [g.E]) (fun g => g.i ≤ s.size ∧ g.n = n + 1 + g.i ∧ OS g.A g.n g.c 3 1 ((xs ++ (s.size : Int) :: (bts s).take g.i).map (.int .i64)) g.E) (fun g => s.size - g.i) (LT1.mk 0 (n + 1) A2 c3 E4) ⟨rfl, rfl, rfl, rfl, rfl, trivial⟩ (sub_picks [0, 1] rfl) ?_ ?_
 ·exact ⟨Nat.zero_le _, rfl, ho7⟩
 intro g _f hI; refine s_norm _ (by simp only [pull, picks, setG, List.cons_append, List.nil_append, List.append_nil, List.drop_succ_cons, List.drop_zero]; rfl) ?_; obtain ⟨hgi, hgn, hgo⟩ := hI; have hbl := bts_len s; refine s_seq (s_region ?_); refine o_val rfl rfl rfl (y_lss rfl rfl) (o_nil ?_); refine s_seq ?_; refine s_if rfl (fun h10 => ?_) (fun h11 => ?_)
 ·refine s_skip ?_; refine s_seq ?_; refine s_block ?_; refine s_seq (s_region ?_); refine o_val rfl rfl rfl (y_index1 Try.runUnderlying76 Try.sizeOf5 (some_int (i := 0) hbs (by omega)) rfl rfl (by omega)) ?_; refine o_val rfl rfl rfl (y_load Try.isAgg5 rfl (cel_int ((hbs).ms (inG_ext (j := 1) rfl)).up (by omega))) ?_; refine o_val rfl rfl rfl (y_assign (v := (.int _ _)) rfl) (o_nil ?_); refine s_region ?_; refine o_val rfl rfl rfl (y_move (v := (.slice _ _ _)) rfl) ?_; refine o_val rfl rfl rfl (y_move (v := (.int _ _)) rfl) ?_; refine o_val rfl rfl rfl (y_conv Try.runUnderlying5 Try.runUnderlying3 rfl (by have hz := bts_bd _ (getD_mem' (show g.i < (bts s).length by omega) : (bts s).getD ((g.i : Nat) : Int).toNat 0 ∈ bts s); simp only [inK]; omega)) ?_; refine o_lit (vs := [(0, .int _ _)]) rfl rfl (Text_k0 _) (fun b12 => ?_); refine o_append (sz := 1) (bytes := 8) (news := [(.int _ _)]) 0 rfl Try.underlying22 Try.type3 rfl rfl rfl rfl rfl hgo rfl rfl (Src.slice Try.underlying22 (cels_own 2 rfl rfl) rfl (by simp [Value.oneCell']) (by simp)) (by omega) (fun A13 c14 E15 ho16 hn17 => ?_); have ho18 : OS A13 (g.n + 1) c14 3 1 ((xs ++ (s.size : Int) :: (bts s).take (g.i + 1)).map (.int .i64)) E15 := (os_eq ho16 (by rw [tkg (d := 0) (show g.i < (bts s).length by omega)]; simp only [List.map_append, List.map_cons, List.append_assoc, List.cons_append]; rfl))
  clear ho16
  refine o_val rfl rfl rfl (y_assign (v := (.slice _ _ _)) rfl) (o_nil ?_); refine s_norm [_, _, [(_, .cells [(.int _ _)].toArray 3 (0, 0))]] rfl ?_; refine s_forget [(0, (.slice _ _ _)), (4, (.slice _ _ _)), (13, (.slice _ _ _)), (14, (.int _ _)), (15, (.int _ _))] ⟨rfl, rfl, rfl, rfl, rfl, trivial⟩ (fun _f => ?_); refine s_region ?_; refine o_val rfl rfl rfl (y_add rfl rfl (by simp only [inK]; omega)) ?_; refine o_val rfl rfl rfl (y_move (v := (.int _ _)) rfl) (o_nil ?_); exact ⟨LT1.mk (g.i + 1) (g.n + 1) A13 c14 E15, (by first | omega | (dsimp only; omega)), ⟨by dsimp only; omega, by dsimp only; omega, ho18⟩, ⟨rfl, (congrArg (Value.int .i64) (by (try dsimp only); omega)), rfl, rfl, rfl, trivial⟩, (sub_picks [0, 0] rfl)⟩
 ·refine s_exit ?_; refine s_seq (s_region ?_); refine o_val rfl rfl rfl (y_move (v := (.slice _ _ _)) rfl) ?_; refine o_val rfl rfl rfl (y_assign (v := (.slice _ _ _)) rfl) (o_nil ?_); refine s_ret ?_; have hgs : g.i = s.size := by omega
  have hfin := os_eq hgo (by rw [hgs, List.take_of_length_le (by omega : (bts s).length ≤ s.size)]; rfl : _ = (xs ++ flT s).map (Value.int .i64)); rw [hgs] at hgn; rw [hgn] at hfin; exact ⟨_, [_], res1 rfl rfl, ⟨g.A, g.c, g.E, congrArg (fun k => Value.slice _ k _) hgn, hfin, rfl⟩, sub_picks [0] rfl⟩

end Go.Proofs.Ytacmbiohjiogiaa.K
end
