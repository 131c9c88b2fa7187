/- Walks over the package tourmake: worlds. No condition beyond what each statement names. -/
import Derived.Test.YtacmbiohjiogiaaProg
import Derived.Test.YtacmbiohjiogiaaK17
import Derived.Test.YtacmbiohjiogiaaM1
import Derived.Test.YtacmbiohjiogiaaM2
import Derived.Test.YtacmbiohjiogiaaW1
import Derived.Test.YtacmbiohjiogiaaW2
import Derived.Test.YtacmbiohjiogiaaW3
import Derived.Test.YtacmbiohjiogiaaW5
import Derived.Test.YtacmbiohjiogiaaW6
import Derived.Test.YtacmbiohjiogiaaW7
set_option linter.unusedVariables false
set_option linter.unusedSimpArgs false
set_option maxRecDepth 100000
set_option maxHeartbeats 1000000
namespace Go.Proofs.Ytacmbiohjiogiaa.K
open Go.RowKit

theorem items_snoc {ks : List KR} {gs : List Int} {its : List IR} {i : IR} (h : itemsP ks gs its) (hi : goodI ks gs (lastI its its.length) i) : itemsP ks gs (its ++ [i]) := by
  have hlast : ∀ j, j ≤ its.length → lastI (its ++ [i]) j = lastI its j := fun j hj => by
    cases j with
    | zero => rfl
    | succ j => simp only [lastI]; rw [getD_snoc (by omega), if_neg (by omega)]
  intro j hj
  rw [List.length_append, List.length_singleton] at hj
  rw [hlast j (by omega), getD_snoc hj]
  by_cases e : j = its.length
  · rw [if_pos e, e]; exact hi
  · rw [if_neg e]; exact h j (by omega)
theorem lastI_lt {its : List IR} {i : Int} (h : ∀ x ∈ its, x.e < i) (hi : 0 ≤ i) : lastI its its.length < i := by
  cases hcs : its.length with
  | zero => simp only [lastI]; omega
  | succ n => simp only [lastI]; exact h _ (getD_mem' (by omega))
theorem lastI_ge' {its : List IR} {ks : List KR} {gs : List Int} (h : itemsP ks gs its) {j : Nat} (hj : j ≤ its.length) : -1 ≤ lastI its j := lastI_ge fun i hi => h i (by omega)
/-- One number more in the list of what was freed. -/
theorem items_more {ks : List KR} {gs : List Int} {its : List IR} {g : Int} (h : itemsP ks gs its) : itemsP ks (gs ++ [g]) its := fun j hj => by
  obtain ⟨h1, h2, h3, h4, h5⟩ := h j hj
  have h0 := lastI_ge' h (show j ≤ its.length by omega)
  refine ⟨h1, by simp only [List.length_append, List.length_singleton]; omega, ?_, h4, h5⟩
  rw [getD_snoc (by omega), if_neg (by omega)]; exact h3
def gensS (gs : List Int) : Prop := ∀ j, j < gs.length → 0 ≤ gs.getD j 0 ∧ gs.getD j 0 < 3
theorem gens_snoc {gs : List Int} {g : Int} (h : gensS gs) (hg : 0 ≤ g ∧ g < 3) : gensS (gs ++ [g]) := fun j hj => by
  rw [List.length_append, List.length_singleton] at hj
  rw [getD_snoc hj]
  by_cases e : j = gs.length
  · rw [if_pos e]; exact hg
  · rw [if_neg e]; exact h j (by omega)
theorem gensS_P {gs : List Int} (h : gensS gs) : gensP gs := fun j hj => by have := h j hj; omega
theorem wErr_ok {ks : List KR} {gs : List Int} {its : List IR} (h1 : ckErr ks = 0) (h2 : gs.length ≤ 256 ∧ its.length ≤ gs.length) (h3 : gensP gs) (h4 : itemsP ks gs its) : wErr ks gs its = 0 := by
  unfold wErr; rw [if_neg (fun hh => hh h1), if_neg (by omega), if_pos ⟨h3, h4⟩]
structure LW8 where
  i : Nat
  gs : List Int
  gA : Option Addr
  gc : Nat
  gE : Grp
  its : List IR
  iA : Option Addr
  iC : Nat
  iE : Grp
  P : Grp
  S : Grp
theorem Sub.trans {L L' L'' : List Grp} (h : Sub L'' L') (h' : Sub L' L) : Sub L'' L := fun w0 V w hw => h w0 V w (h' w0 V w hw)
theorem inG_mem {G : Grp} {L : List Grp} (h : G ∈ L) : MSub (inG G) (inG L.flatten) := fun _ _ hb => List.mem_flatten.2 ⟨G, h, hb⟩
/-- A world of the generator's: small and valid. -/
def smallW (w : WR) : Prop := kindsG w.ks ∧ w.gs.length ≤ 11 ∧ w.its.length ≤ 8 ∧ wErr w.ks w.gs w.its = 0 ∧ gensS w.gs

theorem GenW_k0 (v0A : Option Addr) (v0n : Nat) (v0c : Nat) (w : World) : (Instr.build 174 ([(0, (.slice v0A v0n v0c))] : List (Nat × Value)).toArray).run Try.prog w = .ok (.agg #[.slice v0A v0n v0c]) w := by kernel_rfl
theorem GenW_k1 (v0A : Option Addr) (v0n : Nat) (v0c : Nat) (w : World) : (Instr.build 47 ([(0, (.slice v0A v0n v0c))] : List (Nat × Value)).toArray).run Try.prog w = .ok (.agg #[.slice v0A v0n v0c, .slice none 0 0, .slice none 0 0]) w := by kernel_rfl
theorem GenW_k2 (v0 : Int) (w : World) : (Instr.buildSlice 22 1 ([(0, (.int .i64 v0))] : List (Nat × Value)).toArray).run Try.prog w = .ok (.slice (some ⟨w.heap.size, 0, none⟩) 1 1) { w with heap := w.heap.push (.cells ([.int .i64 v0] : List Value).toArray 3 (0, 0)) } := by kernel_rfl
theorem GenW_k3 (v0 : Int) (v1 : Int) (w : World) : (Instr.build 117 ([(0, (.int .i64 v0)), (1, (.int .i64 v1))] : List (Nat × Value)).toArray).run Try.prog w = .ok (.agg #[.int .i64 v0, .int .i64 v1]) w := by kernel_rfl
theorem GenW_k4 (v0x0 : Int) (v0x1 : Int) (v1A : Option Addr) (v1n : Nat) (v1c : Nat) (w : World) : (Instr.build 136 ([(0, (.agg #[(.int .i64 v0x0), (.int .i64 v0x1)])), (1, (.slice v1A v1n v1c))] : List (Nat × Value)).toArray).run Try.prog w = .ok (.agg #[.int .i64 v0x0, .int .i64 v0x1, .slice v1A v1n v1c]) w := by kernel_rfl
theorem GenW_k5 (v0x0 : Int) (v0x1 : Int) (v0x2A : Option Addr) (v0x2n : Nat) (v0x2c : Nat) (w : World) : (Instr.buildSlice 45 1 ([(0, (.agg #[(.int .i64 v0x0), (.int .i64 v0x1), (.slice v0x2A v0x2n v0x2c)]))] : List (Nat × Value)).toArray).run Try.prog w = .ok (.slice (some ⟨w.heap.size, 0, none⟩) 1 1) { w with heap := w.heap.push (.cells ([.int .i64 v0x0, .int .i64 v0x1, .slice v0x2A v0x2n v0x2c] : List Value).toArray 136 (0, 0)) } := by kernel_rfl
theorem GenW_c {V : Mem} (A : Option Addr) (n c : Nat) (l : List Int) (h : Cels V [] A (l.map (.int .i64))) (hn : l.length = n) (hc : n ≤ c) : CallS Try.prog 23 [.slice A n c].toArray V [] (fun r L' => ∃ (w : WR) (G : Grp), r = .agg #[.slice w.kA w.kn w.kc, .slice w.gA w.gn w.gc, .slice w.iA w.iN w.iC] ∧ WOK (inG G) w ∧ smallW w ∧ L' = [G]) := by
  refine callS Try.func23 rfl rfl (fun w0 => ?_)
  refine s_seq ?_
  refine s_region ?_
  refine o_alloc rfl Try.zeroValue47 rfl (fun b1 => ?_)
  refine o_nil ?_
  refine s_seq ?_
  refine s_region ?_
  refine o_val rfl rfl rfl (y_move (v := (.slice _ _ _)) rfl) ?_
  refine o_val rfl rfl rfl (y_build (vs := [(0, .slice _ _ _)]) rfl (GenW_k0 _ _ _)) ?_
  refine o_box (v := (.agg #[(.slice _ _ _)])) rfl rfl rfl (fun b2 => ?_)
  refine o_val rfl rfl rfl (y_assign (v := (.pointer _)) rfl) ?_
  refine o_nil ?_
  refine s_seq ?_
  refine s_region ?_
  refine o_val rfl rfl rfl (y_move (v := (.pointer _)) rfl) ?_
  refine o_pull 1 ?_
  refine o_fn 1 (d := 10) rfl Try.call86 (GenK_c (Strm.new h hn hc) MSub.ext) rfl ?_
  rintro _ _ ⟨kB, kc, kE, kP, sG, kx, rfl, hko, hkx, hkg, hk1, hst, rfl⟩
  have hck := kindsG_ok hkg
  have hk4 := hkg.1
  refine o_val rfl rfl rfl (y_build (vs := [(0, .slice _ _ _)]) rfl (GenW_k1 _ _ _)) ?_
  refine o_alloc rfl Try.zeroValue47 rfl (fun b3 => ?_)
  refine o_stores (vs := [(.slice _ _ _), (.slice _ _ _), (.slice _ _ _)]) 4 rfl Try.sizeOf47 rfl rfl rfl (by simp [Value.oneCell']) (by simp) ?_
  refine o_nil ?_
  refine s_seq ?_
  refine s_seq ?_
  refine s_region ?_
  refine o_val rfl rfl rfl (y_move (v := (.pointer _)) rfl) ?_
  refine o_fn 1 (d := 13) rfl Try.call87 (NextS_c hst (hm0 := MSub.ext) 12 (by omega)) rfl ?_
  rintro _ _ ⟨k12, sG', rfl, hk120, hk121, hst, rfl⟩
  refine o_val rfl rfl rfl (y_move (v := (.int _ _)) rfl) ?_
  refine o_nil ?_
  refine s_block ?_
  refine s_group ?_
  refine s_group ?_
  refine s_group ?_
  refine s_loopK (γ := LW8) [(2, (.pointer _)), (3, (.pointer _)), (4, (.pointer _)), (13, (.int _ _))] [_, _, _] (fun g => [(14, .int .i64 g.i)]) (fun g => [g.S, [(b3, .cells [.slice kB kx.length kc, .slice g.gA g.gs.length g.gc, .slice g.iA g.its.length g.iC].toArray 47 (0, 0))], g.gE, g.iE, g.P]) (fun g => ((g.i : Nat) : Int) ≤ k12 ∧ g.gs.length = g.i ∧ gensS g.gs ∧ OS g.gA g.gs.length g.gc 3 1 ((g.gs).map (.int .i64)) g.gE ∧ OS g.iA g.its.length g.iC 136 3 ((g.its).flatMap encIt) g.iE ∧ (∀ x ∈ g.its, IOK (inG g.P) x) ∧ itemsP kx g.gs g.its ∧ (∀ x ∈ g.its, x.e < g.i) ∧ g.its.length ≤ 8 ∧ g.its.length ≤ g.i ∧ Strm V b2 g.S) (fun g => (k12 - g.i).toNat) (LW8.mk 0 [] none 0 [] [] none 0 [] [] sG') ⟨rfl, rfl, rfl, rfl, rfl, trivial⟩ (sub_picks [0, 3, 3, 3, 3, 0, 0, 0] rfl) ?_ ?_
  · exact ⟨by dsimp only; omega, rfl, fun j hj => absurd hj (Nat.not_lt_zero j), OS.nil _ _, OS.nil _ _, fun x hx => absurd hx List.not_mem_nil, fun j hj => absurd hj (Nat.not_lt_zero j), fun x hx => absurd hx List.not_mem_nil, Nat.zero_le _, Nat.zero_le _, hst⟩
  intro g _f hI
  refine s_norm _ (by simp only [pull, picks, setG, List.cons_append, List.nil_append, List.append_nil, List.drop_succ_cons, List.drop_zero]; rfl) ?_
  obtain ⟨hgi, hgl, hgg, hgo, hio, hii, hip, hie, hi8, hil, hst1⟩ := hI
  refine s_seq ?_
  refine s_region ?_
  refine o_val rfl rfl rfl (y_lss rfl rfl) ?_
  refine o_nil ?_
  refine s_seq ?_
  refine s_if rfl (fun h4 => ?_) (fun h5 => ?_)
  · refine s_skip ?_
    refine s_seq ?_
    refine s_block ?_
    refine s_seq ?_
    refine s_region ?_
    refine o_val rfl rfl rfl (y_move (v := (.int _ _)) rfl) ?_
    refine o_val rfl rfl rfl (y_assign (v := (.int _ _)) rfl) ?_
    refine o_nil ?_
    refine s_seq ?_
    refine s_pull 2 ?_
    refine s_pull 2 ?_
    refine s_pull 2 ?_
    refine s_drawn 3 (by kernel_rfl) ?_
    refine d_val (i := 0) rfl (by kernel_rfl) (by kernel_rfl) (by kernel_rfl) rfl rfl rfl (y_field0 Try.runUnderlying47 rfl Try.sizeOf22 rfl rfl) ?_
    refine d_val (i := 2) rfl (by kernel_rfl) (by kernel_rfl) (by kernel_rfl) rfl rfl rfl (y_move (v := (.pointer _)) rfl) ?_
    refine d_eff2 (k := 1) (k' := 3) (n := 3) (m := 5) rfl rfl (by kernel_rfl) rfl ?_ ?_
    · refine o_val rfl rfl rfl (y_load Try.isAgg22 rfl (cel_own 1 rfl rfl)) ?_
      refine o_nil ?_
      refine d_eff (k := 3) (n := 3) (m := 5) rfl (by kernel_rfl) rfl ?_
      refine o_fn 1 (d := 20) rfl Try.call87 (NextS_c hst1 (hm0 := MSub.ext) 3 (by omega)) rfl ?_
      rintro _ _ ⟨k3, sG', rfl, hk30, hk31, hst1, rfl⟩
      refine o_nil ?_
      refine d_eff (k := 4) (n := 3) (m := 5) rfl (by kernel_rfl) rfl ?_
      refine o_lit (vs := [(0, .int _ _)]) rfl rfl (GenW_k2 _) (fun b6 => ?_)
      refine o_nil ?_
      refine d_eff (k := 5) (n := 3) (m := 5) rfl (by kernel_rfl) rfl ?_
      refine o_append (sz := 1) (bytes := 8) (news := [(.int _ _)]) 2 rfl Try.underlying22 Try.type3 rfl rfl rfl rfl rfl hgo rfl rfl (Src.slice Try.underlying22 (cels_own 8 rfl rfl) rfl (by simp [Value.oneCell']) (by simp)) (by omega) (fun A7 c8 E9 ho10 hn11 => ?_)
      have ho12 : OS A7 (g.gs.length + 1) c8 3 1 ((g.gs ++ [k3]).map (.int .i64)) E9 := (os_eq ho10 (by rw [List.map_append]; rfl))
      clear ho10
      refine o_nil ?_
      refine d_val (i := 6) rfl (by kernel_rfl) (by kernel_rfl) (by kernel_rfl) rfl rfl rfl (y_field0 Try.runUnderlying47 rfl Try.sizeOf22 rfl rfl) ?_
      refine d_eff (k := 7) (n := 3) (m := 5) rfl (by kernel_rfl) rfl ?_
      refine o_store (v := (.slice _ _ _)) 1 rfl Try.sizeOf22 rfl rfl rfl rfl ?_
      refine o_nil ?_
      refine d_nil (n := 3) (m := 5) (by kernel_rfl) rfl ?_
      refine s_norm [_, [(_, .cells [(.slice _ _ _), (.slice _ _ _), (.slice _ _ _)].toArray 47 (0, 0))], _, _, _, _, _, [(_, .cells [(.slice _ _ _), (.slice _ _ _), (.slice _ _ _)].toArray 47 (0, 0))], [(_, .cells [(.int _ _)].toArray 3 (0, 0))]] rfl ?_
      refine s_forget [(2, (.pointer _)), (3, (.pointer _)), (4, (.pointer _)), (5, (.int _ _)), (13, (.int _ _)), (14, (.int _ _))] ⟨rfl, rfl, rfl, rfl, rfl, rfl, trivial⟩ (fun _f => ?_)
      refine s_seq ?_
      refine s_seq ?_
      refine s_region ?_
      refine o_val rfl rfl rfl (y_move (v := (.pointer _)) rfl) ?_
      refine o_fn 1 (d := 25) rfl Try.call87 (NextS_c hst1 (hm0 := MSub.ext) 4 (by omega)) rfl ?_
      rintro _ _ ⟨k4, sG', rfl, hk40, hk41, hst1, rfl⟩
      refine o_split rfl rfl rfl (y_eql rfl rfl) (fun p13 => ?_) (fun p14 => ?_)
      · refine o_val rfl rfl rfl (y_move (v := (.bool _)) rfl) ?_
        refine o_guard_no rfl rfl rfl rfl rfl ?_
        refine o_guard_no rfl rfl rfl rfl rfl ?_
        refine o_guard_no rfl rfl rfl rfl rfl ?_
        refine o_guard_no rfl rfl rfl rfl rfl ?_
        refine o_val rfl rfl rfl (y_pick_t (v := (.bool _)) rfl rfl) ?_
        refine o_nil ?_
        refine s_then rfl ?_
        refine s_exit ?_
        refine s_region ?_
        refine o_val rfl rfl rfl (y_add rfl rfl (by simp only [inK]; omega)) ?_
        refine o_val rfl rfl rfl (y_move (v := (.int _ _)) rfl) ?_
        refine o_nil ?_
        exact ⟨LW8.mk (g.i + 1) (g.gs ++ [k3]) A7 c8 E9 g.its g.iA g.iC g.iE g.P sG', (by first | omega | (dsimp only; omega)), ⟨by dsimp only; omega, by simp only [List.length_append, List.length_singleton]; omega, gens_snoc hgg ⟨hk30, hk31 (by decide)⟩, by dsimp only; rw [List.length_append]; exact ho12, hio, hii, items_more hip, fun x hx => by have := hie x hx; dsimp only; omega, hi8, by dsimp only; omega, hst1⟩, ⟨(congrArg (Value.int .i64) (by (try dsimp only); omega)), rfl, rfl, rfl, rfl, trivial⟩, (by dsimp only; rw [List.length_append]; exact sub_picks [0, 0, 0, 0, 0, 0, 0, 0] rfl)⟩
      · refine o_val rfl rfl rfl (y_move (v := (.bool _)) rfl) ?_
        refine o_guard_yes rfl rfl ?_
        refine o_val rfl rfl rfl (y_field0 Try.runUnderlying47 rfl Try.sizeOf45 rfl rfl) ?_
        refine o_guard_yes rfl rfl ?_
        refine o_val rfl rfl rfl (y_load Try.isAgg45 rfl (cel_own 1 rfl rfl)) ?_
        refine o_guard_yes rfl rfl ?_
        refine o_val rfl rfl rfl (y_len Try.runUnderlying45 rfl) ?_
        refine o_guard_yes rfl rfl ?_
        refine o_val rfl rfl rfl (y_eql rfl rfl) ?_
        refine o_val rfl rfl rfl (y_pick_f (v := (.bool _)) rfl rfl) ?_
        refine o_nil ?_
        refine s_if rfl (fun h15 => ?_) (fun h16 => ?_)
        · refine s_exit ?_
          refine s_region ?_
          refine o_val rfl rfl rfl (y_add rfl rfl (by simp only [inK]; omega)) ?_
          refine o_val rfl rfl rfl (y_move (v := (.int _ _)) rfl) ?_
          refine o_nil ?_
          exact ⟨LW8.mk (g.i + 1) (g.gs ++ [k3]) A7 c8 E9 g.its g.iA g.iC g.iE g.P sG', (by first | omega | (dsimp only; omega)), ⟨by dsimp only; omega, by simp only [List.length_append, List.length_singleton]; omega, gens_snoc hgg ⟨hk30, hk31 (by decide)⟩, by dsimp only; rw [List.length_append]; exact ho12, hio, hii, items_more hip, fun x hx => by have := hie x hx; dsimp only; omega, hi8, by dsimp only; omega, hst1⟩, ⟨(congrArg (Value.int .i64) (by (try dsimp only); omega)), rfl, rfl, rfl, rfl, trivial⟩, (by dsimp only; rw [List.length_append]; exact sub_picks [0, 0, 0, 0, 0, 0, 0, 0] rfl)⟩
        · refine s_skip ?_
          refine s_pull 3 ?_
          refine s_pull 2 ?_
          refine s_pull 2 ?_
          refine s_drawn 3 (by kernel_rfl) ?_
          refine d_val (i := 0) rfl (by kernel_rfl) (by kernel_rfl) (by kernel_rfl) rfl rfl rfl (y_field0 Try.runUnderlying47 rfl Try.sizeOf45 rfl rfl) ?_
          refine d_val (i := 2) rfl (by kernel_rfl) (by kernel_rfl) (by kernel_rfl) rfl rfl rfl (y_move (v := (.int _ _)) rfl) ?_
          refine d_val (i := 3) rfl (by kernel_rfl) (by kernel_rfl) (by kernel_rfl) rfl rfl rfl (y_field0 Try.runUnderlying47 rfl Try.sizeOf22 rfl rfl) ?_
          refine d_val (i := 5) rfl (by kernel_rfl) (by kernel_rfl) (by kernel_rfl) rfl rfl rfl (y_move (v := (.int _ _)) rfl) ?_
          refine d_val (i := 9) rfl (by kernel_rfl) (by kernel_rfl) (by kernel_rfl) rfl rfl rfl (y_field0 Try.runUnderlying47 rfl Try.sizeOf23 rfl rfl) ?_
          refine d_val (i := 11) rfl (by kernel_rfl) (by kernel_rfl) (by kernel_rfl) rfl rfl rfl (y_move (v := (.pointer _)) rfl) ?_
          refine d_eff3 (k := 1) (k' := 4) (k'' := 10) (n := 3) (m := 6) rfl rfl rfl (by kernel_rfl) rfl ?_ ?_ ?_
          · refine o_val rfl rfl rfl (y_load Try.isAgg45 rfl (cel_own 1 rfl rfl)) ?_
            refine o_nil ?_
            refine d_eff2 (k := 4) (k' := 10) (n := 3) (m := 6) rfl rfl (by kernel_rfl) rfl ?_ ?_
            · refine o_val rfl rfl rfl (y_load Try.isAgg22 rfl (cel_own 1 rfl rfl)) ?_
              refine o_nil ?_
              refine d_val (i := 6) rfl (by kernel_rfl) (by kernel_rfl) (by kernel_rfl) rfl rfl rfl (y_index1 Try.runUnderlying22 Try.sizeOf3 (ho12.some_of (by omega)) rfl rfl (by omega)) ?_
              refine d_val (i := 7) rfl (by kernel_rfl) (by kernel_rfl) (by kernel_rfl) rfl rfl rfl (y_load Try.isAgg3 rfl (cel_int (ho12.cels (j := 0) rfl) (by simp only [List.length_append, List.length_singleton]; omega))) ?_
              refine d_val (i := 8) rfl (by kernel_rfl) (by kernel_rfl) (by kernel_rfl) rfl rfl rfl (y_build (vs := [(0, .int _ _), (1, .int _ _)]) rfl (GenW_k3 _ _)) ?_
              refine d_now (i := 10) [] rfl (by kernel_rfl) (by kernel_rfl) (by kernel_rfl) rfl rfl rfl (y_load Try.isAgg23 rfl (cel_own 1 rfl rfl)) trivial ?_
              refine d_eff (k := 12) (n := 3) (m := 6) rfl (by kernel_rfl) rfl ?_
              refine o_fn 1 (d := 45) rfl Try.call92 (GenC_c hst1 MSub.ext kB kx.length kc kx ⟨rfl, hko.2.1, by omega, (hko.cels (j := 4) rfl).down, fun x hx => (hkx x hx).sub (inG_ext (j := 5) rfl)⟩ hck) rfl ?_
              rintro _ _ ⟨cB, cc, cE, cP, cS, cs, rfl, hco, hcx, hch, hc16, hst1, rfl⟩
              refine o_nil ?_
              refine d_val (i := 13) rfl (by kernel_rfl) (by kernel_rfl) (by kernel_rfl) rfl rfl rfl (y_build (vs := [(0, .agg #[.int _ _, .int _ _]), (1, .slice _ _ _)]) rfl (GenW_k4 _ _ _ _ _)) ?_
              refine d_eff (k := 14) (n := 5) (m := 6) rfl (by kernel_rfl) rfl ?_
              refine o_lit (vs := [(0, .agg #[.int _ _, .int _ _, .slice _ _ _])]) rfl rfl (GenW_k5 _ _ _ _ _) (fun b17 => ?_)
              refine o_nil ?_
              refine d_eff (k := 15) (n := 5) (m := 6) rfl (by kernel_rfl) rfl ?_
              refine o_append (sz := 3) (bytes := 40) (news := [(.int _ _), (.int _ _), (.slice _ _ _)]) 4 rfl Try.underlying45 Try.type136 rfl rfl rfl rfl rfl hio rfl rfl (Src.slice Try.underlying45 (cels_own 11 rfl rfl) rfl (by simp [Value.oneCell']) (by simp)) (by omega) (fun A18 c19 E20 ho21 hn22 => ?_)
              have ho23 : OS A18 (g.its.length + 1) c19 136 3 ((g.its ++ [(IR.mk ((g.i : Nat) : Int) ((g.gs ++ [k3]).getD ((g.i : Nat) : Int).toNat 0) cB cs.length cc cs)]).flatMap encIt) E20 := os_snoc ho21 rfl
              clear ho21
              refine o_nil ?_
              refine d_val (i := 16) rfl (by kernel_rfl) (by kernel_rfl) (by kernel_rfl) rfl rfl rfl (y_field0 Try.runUnderlying47 rfl Try.sizeOf45 rfl rfl) ?_
              refine d_eff (k := 17) (n := 5) (m := 6) rfl (by kernel_rfl) rfl ?_
              refine o_store (v := (.slice _ _ _)) 3 rfl Try.sizeOf45 rfl rfl rfl rfl ?_
              refine o_nil ?_
              refine d_nil (n := 5) (m := 6) (by kernel_rfl) rfl ?_
              refine s_norm [_, _, _, [(_, .cells [(.slice _ _ _), (.slice _ _ _), (.slice _ _ _)].toArray 47 (0, 0))], _, _, _, _, _, [(_, .cells [(.slice _ _ _), (.slice _ _ _), (.slice _ _ _)].toArray 47 (0, 0))], [(_, .cells [(.int _ _)].toArray 3 (0, 0))], [(_, .cells [(.int _ _), (.int _ _), (.slice _ _ _)].toArray 136 (0, 0))]] rfl ?_
              refine s_forget [(2, (.pointer _)), (3, (.pointer _)), (4, (.pointer _)), (13, (.int _ _)), (14, (.int _ _))] ⟨rfl, rfl, rfl, rfl, rfl, trivial⟩ (fun _f => ?_)
              refine s_region ?_
              refine o_pull 6 ?_
              refine o_pull 3 ?_
              refine o_fuse ?_
              refine o_pull 2 ?_
              refine o_fuse ?_
              refine o_val rfl rfl rfl (y_add rfl rfl (by simp only [inK]; omega)) ?_
              refine o_val rfl rfl rfl (y_move (v := (.int _ _)) rfl) ?_
              refine o_nil ?_
              exact ⟨LW8.mk (g.i + 1) (g.gs ++ [k3]) A7 c8 E9 (g.its ++ [(IR.mk ((g.i : Nat) : Int) ((g.gs ++ [k3]).getD ((g.i : Nat) : Int).toNat 0) cB cs.length cc cs)]) A18 c19 E20 (cE ++ (cP ++ g.P)) cS, (by first | omega | (dsimp only; omega)), ⟨by dsimp only; omega, by simp only [List.length_append, List.length_singleton]; omega, gens_snoc hgg ⟨hk30, hk31 (by decide)⟩, by dsimp only; rw [List.length_append]; exact ho12, by dsimp only; rw [List.length_append]; exact ho23, all_snoc (fun x hx => ((hii x hx).sub inG_right).sub inG_right) ⟨rfl, hco.2.1, by dsimp only; omega, hco.mem.ms inG_left, fun y hy => ((hcx y hy).sub inG_left).sub inG_right⟩, items_snoc (items_more hip) ⟨(show lastI g.its g.its.length < ((g.i : Nat) : Int) from lastI_lt hie (by omega)), by simp only [List.length_append, List.length_singleton]; omega, rfl, by dsimp only; rw [getD_snoc (by omega), if_pos (by omega)]; omega, hch⟩, all_snoc (fun x hx => by have := hie x hx; dsimp only; omega) (by dsimp only; omega), by simp only [List.length_append, List.length_singleton]; omega, by simp only [List.length_append, List.length_singleton]; omega, hst1⟩, ⟨(congrArg (Value.int .i64) (by (try dsimp only); omega)), rfl, rfl, rfl, rfl, trivial⟩, (by dsimp only; rw [List.length_append, List.length_append]; exact sub_picks [1, 1, 2, 1, 0, 0, 0, 0] rfl)⟩
            · refine o_val rfl rfl rfl (y_load Try.isAgg23 rfl (cel_own 1 rfl rfl)) ?_
              refine o_nil ?_
              refine d_eff2 (k := 4) (k' := 12) (n := 3) (m := 6) rfl rfl (by kernel_rfl) rfl ?_ ?_
              · refine o_val rfl rfl rfl (y_load Try.isAgg22 rfl (cel_own 1 rfl rfl)) ?_
                refine o_nil ?_
                refine d_val (i := 6) rfl (by kernel_rfl) (by kernel_rfl) (by kernel_rfl) rfl rfl rfl (y_index1 Try.runUnderlying22 Try.sizeOf3 (ho12.some_of (by omega)) rfl rfl (by omega)) ?_
                refine d_val (i := 7) rfl (by kernel_rfl) (by kernel_rfl) (by kernel_rfl) rfl rfl rfl (y_load Try.isAgg3 rfl (cel_int (ho12.cels (j := 0) rfl) (by simp only [List.length_append, List.length_singleton]; omega))) ?_
                refine d_val (i := 8) rfl (by kernel_rfl) (by kernel_rfl) (by kernel_rfl) rfl rfl rfl (y_build (vs := [(0, .int _ _), (1, .int _ _)]) rfl (GenW_k3 _ _)) ?_
                refine d_eff (k := 12) (n := 3) (m := 6) rfl (by kernel_rfl) rfl ?_
                refine o_fn 1 (d := 45) rfl Try.call92 (GenC_c hst1 MSub.ext kB kx.length kc kx ⟨rfl, hko.2.1, by omega, (hko.cels (j := 4) rfl).down, fun x hx => (hkx x hx).sub (inG_ext (j := 5) rfl)⟩ hck) rfl ?_
                rintro _ _ ⟨cB, cc, cE, cP, cS, cs, rfl, hco, hcx, hch, hc16, hst1, rfl⟩
                refine o_nil ?_
                refine d_val (i := 13) rfl (by kernel_rfl) (by kernel_rfl) (by kernel_rfl) rfl rfl rfl (y_build (vs := [(0, .agg #[.int _ _, .int _ _]), (1, .slice _ _ _)]) rfl (GenW_k4 _ _ _ _ _)) ?_
                refine d_eff (k := 14) (n := 5) (m := 6) rfl (by kernel_rfl) rfl ?_
                refine o_lit (vs := [(0, .agg #[.int _ _, .int _ _, .slice _ _ _])]) rfl rfl (GenW_k5 _ _ _ _ _) (fun b24 => ?_)
                refine o_nil ?_
                refine d_eff (k := 15) (n := 5) (m := 6) rfl (by kernel_rfl) rfl ?_
                refine o_append (sz := 3) (bytes := 40) (news := [(.int _ _), (.int _ _), (.slice _ _ _)]) 4 rfl Try.underlying45 Try.type136 rfl rfl rfl rfl rfl hio rfl rfl (Src.slice Try.underlying45 (cels_own 11 rfl rfl) rfl (by simp [Value.oneCell']) (by simp)) (by omega) (fun A25 c26 E27 ho28 hn29 => ?_)
                have ho30 : OS A25 (g.its.length + 1) c26 136 3 ((g.its ++ [(IR.mk ((g.i : Nat) : Int) ((g.gs ++ [k3]).getD ((g.i : Nat) : Int).toNat 0) cB cs.length cc cs)]).flatMap encIt) E27 := os_snoc ho28 rfl
                clear ho28
                refine o_nil ?_
                refine d_val (i := 16) rfl (by kernel_rfl) (by kernel_rfl) (by kernel_rfl) rfl rfl rfl (y_field0 Try.runUnderlying47 rfl Try.sizeOf45 rfl rfl) ?_
                refine d_eff (k := 17) (n := 5) (m := 6) rfl (by kernel_rfl) rfl ?_
                refine o_store (v := (.slice _ _ _)) 3 rfl Try.sizeOf45 rfl rfl rfl rfl ?_
                refine o_nil ?_
                refine d_nil (n := 5) (m := 6) (by kernel_rfl) rfl ?_
                refine s_norm [_, _, _, [(_, .cells [(.slice _ _ _), (.slice _ _ _), (.slice _ _ _)].toArray 47 (0, 0))], _, _, _, _, _, [(_, .cells [(.slice _ _ _), (.slice _ _ _), (.slice _ _ _)].toArray 47 (0, 0))], [(_, .cells [(.int _ _)].toArray 3 (0, 0))], [(_, .cells [(.int _ _), (.int _ _), (.slice _ _ _)].toArray 136 (0, 0))]] rfl ?_
                refine s_forget [(2, (.pointer _)), (3, (.pointer _)), (4, (.pointer _)), (13, (.int _ _)), (14, (.int _ _))] ⟨rfl, rfl, rfl, rfl, rfl, trivial⟩ (fun _f => ?_)
                refine s_region ?_
                refine o_pull 6 ?_
                refine o_pull 3 ?_
                refine o_fuse ?_
                refine o_pull 2 ?_
                refine o_fuse ?_
                refine o_val rfl rfl rfl (y_add rfl rfl (by simp only [inK]; omega)) ?_
                refine o_val rfl rfl rfl (y_move (v := (.int _ _)) rfl) ?_
                refine o_nil ?_
                exact ⟨LW8.mk (g.i + 1) (g.gs ++ [k3]) A7 c8 E9 (g.its ++ [(IR.mk ((g.i : Nat) : Int) ((g.gs ++ [k3]).getD ((g.i : Nat) : Int).toNat 0) cB cs.length cc cs)]) A25 c26 E27 (cE ++ (cP ++ g.P)) cS, (by first | omega | (dsimp only; omega)), ⟨by dsimp only; omega, by simp only [List.length_append, List.length_singleton]; omega, gens_snoc hgg ⟨hk30, hk31 (by decide)⟩, by dsimp only; rw [List.length_append]; exact ho12, by dsimp only; rw [List.length_append]; exact ho30, all_snoc (fun x hx => ((hii x hx).sub inG_right).sub inG_right) ⟨rfl, hco.2.1, by dsimp only; omega, hco.mem.ms inG_left, fun y hy => ((hcx y hy).sub inG_left).sub inG_right⟩, items_snoc (items_more hip) ⟨(show lastI g.its g.its.length < ((g.i : Nat) : Int) from lastI_lt hie (by omega)), by simp only [List.length_append, List.length_singleton]; omega, rfl, by dsimp only; rw [getD_snoc (by omega), if_pos (by omega)]; omega, hch⟩, all_snoc (fun x hx => by have := hie x hx; dsimp only; omega) (by dsimp only; omega), by simp only [List.length_append, List.length_singleton]; omega, by simp only [List.length_append, List.length_singleton]; omega, hst1⟩, ⟨(congrArg (Value.int .i64) (by (try dsimp only); omega)), rfl, rfl, rfl, rfl, trivial⟩, (by dsimp only; rw [List.length_append, List.length_append]; exact sub_picks [1, 1, 2, 1, 0, 0, 0, 0] rfl)⟩
              · refine o_fn 1 (d := 45) rfl Try.call92 (GenC_c hst1 MSub.ext kB kx.length kc kx ⟨rfl, hko.2.1, by omega, (hko.cels (j := 4) rfl).down, fun x hx => (hkx x hx).sub (inG_ext (j := 5) rfl)⟩ hck) rfl ?_
                rintro _ _ ⟨cB, cc, cE, cP, cS, cs, rfl, hco, hcx, hch, hc16, hst1, rfl⟩
                refine o_nil ?_
                refine d_now (i := 4) [] rfl (by kernel_rfl) (by kernel_rfl) (by kernel_rfl) rfl rfl rfl (y_load Try.isAgg22 rfl (cel_own 3 rfl rfl)) trivial ?_
                refine d_val (i := 6) rfl (by kernel_rfl) (by kernel_rfl) (by kernel_rfl) rfl rfl rfl (y_index1 Try.runUnderlying22 Try.sizeOf3 (ho12.some_of (by omega)) rfl rfl (by omega)) ?_
                refine d_val (i := 7) rfl (by kernel_rfl) (by kernel_rfl) (by kernel_rfl) rfl rfl rfl (y_load Try.isAgg3 rfl (cel_int (ho12.cels (j := 0) rfl) (by simp only [List.length_append, List.length_singleton]; omega))) ?_
                refine d_val (i := 8) rfl (by kernel_rfl) (by kernel_rfl) (by kernel_rfl) rfl rfl rfl (y_build (vs := [(0, .int _ _), (1, .int _ _)]) rfl (GenW_k3 _ _)) ?_
                refine d_val (i := 13) rfl (by kernel_rfl) (by kernel_rfl) (by kernel_rfl) rfl rfl rfl (y_build (vs := [(0, .agg #[.int _ _, .int _ _]), (1, .slice _ _ _)]) rfl (GenW_k4 _ _ _ _ _)) ?_
                refine d_eff (k := 14) (n := 5) (m := 6) rfl (by kernel_rfl) rfl ?_
                refine o_lit (vs := [(0, .agg #[.int _ _, .int _ _, .slice _ _ _])]) rfl rfl (GenW_k5 _ _ _ _ _) (fun b31 => ?_)
                refine o_nil ?_
                refine d_eff (k := 15) (n := 5) (m := 6) rfl (by kernel_rfl) rfl ?_
                refine o_append (sz := 3) (bytes := 40) (news := [(.int _ _), (.int _ _), (.slice _ _ _)]) 4 rfl Try.underlying45 Try.type136 rfl rfl rfl rfl rfl hio rfl rfl (Src.slice Try.underlying45 (cels_own 11 rfl rfl) rfl (by simp [Value.oneCell']) (by simp)) (by omega) (fun A32 c33 E34 ho35 hn36 => ?_)
                have ho37 : OS A32 (g.its.length + 1) c33 136 3 ((g.its ++ [(IR.mk ((g.i : Nat) : Int) ((g.gs ++ [k3]).getD ((g.i : Nat) : Int).toNat 0) cB cs.length cc cs)]).flatMap encIt) E34 := os_snoc ho35 rfl
                clear ho35
                refine o_nil ?_
                refine d_val (i := 16) rfl (by kernel_rfl) (by kernel_rfl) (by kernel_rfl) rfl rfl rfl (y_field0 Try.runUnderlying47 rfl Try.sizeOf45 rfl rfl) ?_
                refine d_eff (k := 17) (n := 5) (m := 6) rfl (by kernel_rfl) rfl ?_
                refine o_store (v := (.slice _ _ _)) 3 rfl Try.sizeOf45 rfl rfl rfl rfl ?_
                refine o_nil ?_
                refine d_nil (n := 5) (m := 6) (by kernel_rfl) rfl ?_
                refine s_norm [_, _, _, [(_, .cells [(.slice _ _ _), (.slice _ _ _), (.slice _ _ _)].toArray 47 (0, 0))], _, _, _, _, _, [(_, .cells [(.slice _ _ _), (.slice _ _ _), (.slice _ _ _)].toArray 47 (0, 0))], [(_, .cells [(.int _ _)].toArray 3 (0, 0))], [(_, .cells [(.int _ _), (.int _ _), (.slice _ _ _)].toArray 136 (0, 0))]] rfl ?_
                refine s_forget [(2, (.pointer _)), (3, (.pointer _)), (4, (.pointer _)), (13, (.int _ _)), (14, (.int _ _))] ⟨rfl, rfl, rfl, rfl, rfl, trivial⟩ (fun _f => ?_)
                refine s_region ?_
                refine o_pull 6 ?_
                refine o_pull 3 ?_
                refine o_fuse ?_
                refine o_pull 2 ?_
                refine o_fuse ?_
                refine o_val rfl rfl rfl (y_add rfl rfl (by simp only [inK]; omega)) ?_
                refine o_val rfl rfl rfl (y_move (v := (.int _ _)) rfl) ?_
                refine o_nil ?_
                exact ⟨LW8.mk (g.i + 1) (g.gs ++ [k3]) A7 c8 E9 (g.its ++ [(IR.mk ((g.i : Nat) : Int) ((g.gs ++ [k3]).getD ((g.i : Nat) : Int).toNat 0) cB cs.length cc cs)]) A32 c33 E34 (cE ++ (cP ++ g.P)) cS, (by first | omega | (dsimp only; omega)), ⟨by dsimp only; omega, by simp only [List.length_append, List.length_singleton]; omega, gens_snoc hgg ⟨hk30, hk31 (by decide)⟩, by dsimp only; rw [List.length_append]; exact ho12, by dsimp only; rw [List.length_append]; exact ho37, all_snoc (fun x hx => ((hii x hx).sub inG_right).sub inG_right) ⟨rfl, hco.2.1, by dsimp only; omega, hco.mem.ms inG_left, fun y hy => ((hcx y hy).sub inG_left).sub inG_right⟩, items_snoc (items_more hip) ⟨(show lastI g.its g.its.length < ((g.i : Nat) : Int) from lastI_lt hie (by omega)), by simp only [List.length_append, List.length_singleton]; omega, rfl, by dsimp only; rw [getD_snoc (by omega), if_pos (by omega)]; omega, hch⟩, all_snoc (fun x hx => by have := hie x hx; dsimp only; omega) (by dsimp only; omega), by simp only [List.length_append, List.length_singleton]; omega, by simp only [List.length_append, List.length_singleton]; omega, hst1⟩, ⟨(congrArg (Value.int .i64) (by (try dsimp only); omega)), rfl, rfl, rfl, rfl, trivial⟩, (by dsimp only; rw [List.length_append, List.length_append]; exact sub_picks [1, 1, 2, 1, 0, 0, 0, 0] rfl)⟩
          · refine o_val rfl rfl rfl (y_load Try.isAgg22 rfl (cel_own 1 rfl rfl)) ?_
            refine o_nil ?_
            refine d_val (i := 6) rfl (by kernel_rfl) (by kernel_rfl) (by kernel_rfl) rfl rfl rfl (y_index1 Try.runUnderlying22 Try.sizeOf3 (ho12.some_of (by omega)) rfl rfl (by omega)) ?_
            refine d_val (i := 7) rfl (by kernel_rfl) (by kernel_rfl) (by kernel_rfl) rfl rfl rfl (y_load Try.isAgg3 rfl (cel_int (ho12.cels (j := 0) rfl) (by simp only [List.length_append, List.length_singleton]; omega))) ?_
            refine d_val (i := 8) rfl (by kernel_rfl) (by kernel_rfl) (by kernel_rfl) rfl rfl rfl (y_build (vs := [(0, .int _ _), (1, .int _ _)]) rfl (GenW_k3 _ _)) ?_
            refine d_eff2 (k := 1) (k' := 10) (n := 3) (m := 6) rfl rfl (by kernel_rfl) rfl ?_ ?_
            · refine o_val rfl rfl rfl (y_load Try.isAgg45 rfl (cel_own 1 rfl rfl)) ?_
              refine o_nil ?_
              refine d_now (i := 10) [] rfl (by kernel_rfl) (by kernel_rfl) (by kernel_rfl) rfl rfl rfl (y_load Try.isAgg23 rfl (cel_own 1 rfl rfl)) trivial ?_
              refine d_eff (k := 12) (n := 3) (m := 6) rfl (by kernel_rfl) rfl ?_
              refine o_fn 1 (d := 45) rfl Try.call92 (GenC_c hst1 MSub.ext kB kx.length kc kx ⟨rfl, hko.2.1, by omega, (hko.cels (j := 4) rfl).down, fun x hx => (hkx x hx).sub (inG_ext (j := 5) rfl)⟩ hck) rfl ?_
              rintro _ _ ⟨cB, cc, cE, cP, cS, cs, rfl, hco, hcx, hch, hc16, hst1, rfl⟩
              refine o_nil ?_
              refine d_val (i := 13) rfl (by kernel_rfl) (by kernel_rfl) (by kernel_rfl) rfl rfl rfl (y_build (vs := [(0, .agg #[.int _ _, .int _ _]), (1, .slice _ _ _)]) rfl (GenW_k4 _ _ _ _ _)) ?_
              refine d_eff (k := 14) (n := 5) (m := 6) rfl (by kernel_rfl) rfl ?_
              refine o_lit (vs := [(0, .agg #[.int _ _, .int _ _, .slice _ _ _])]) rfl rfl (GenW_k5 _ _ _ _ _) (fun b38 => ?_)
              refine o_nil ?_
              refine d_eff (k := 15) (n := 5) (m := 6) rfl (by kernel_rfl) rfl ?_
              refine o_append (sz := 3) (bytes := 40) (news := [(.int _ _), (.int _ _), (.slice _ _ _)]) 4 rfl Try.underlying45 Try.type136 rfl rfl rfl rfl rfl hio rfl rfl (Src.slice Try.underlying45 (cels_own 11 rfl rfl) rfl (by simp [Value.oneCell']) (by simp)) (by omega) (fun A39 c40 E41 ho42 hn43 => ?_)
              have ho44 : OS A39 (g.its.length + 1) c40 136 3 ((g.its ++ [(IR.mk ((g.i : Nat) : Int) ((g.gs ++ [k3]).getD ((g.i : Nat) : Int).toNat 0) cB cs.length cc cs)]).flatMap encIt) E41 := os_snoc ho42 rfl
              clear ho42
              refine o_nil ?_
              refine d_val (i := 16) rfl (by kernel_rfl) (by kernel_rfl) (by kernel_rfl) rfl rfl rfl (y_field0 Try.runUnderlying47 rfl Try.sizeOf45 rfl rfl) ?_
              refine d_eff (k := 17) (n := 5) (m := 6) rfl (by kernel_rfl) rfl ?_
              refine o_store (v := (.slice _ _ _)) 3 rfl Try.sizeOf45 rfl rfl rfl rfl ?_
              refine o_nil ?_
              refine d_nil (n := 5) (m := 6) (by kernel_rfl) rfl ?_
              refine s_norm [_, _, _, [(_, .cells [(.slice _ _ _), (.slice _ _ _), (.slice _ _ _)].toArray 47 (0, 0))], _, _, _, _, _, [(_, .cells [(.slice _ _ _), (.slice _ _ _), (.slice _ _ _)].toArray 47 (0, 0))], [(_, .cells [(.int _ _)].toArray 3 (0, 0))], [(_, .cells [(.int _ _), (.int _ _), (.slice _ _ _)].toArray 136 (0, 0))]] rfl ?_
              refine s_forget [(2, (.pointer _)), (3, (.pointer _)), (4, (.pointer _)), (13, (.int _ _)), (14, (.int _ _))] ⟨rfl, rfl, rfl, rfl, rfl, trivial⟩ (fun _f => ?_)
              refine s_region ?_
              refine o_pull 6 ?_
              refine o_pull 3 ?_
              refine o_fuse ?_
              refine o_pull 2 ?_
              refine o_fuse ?_
              refine o_val rfl rfl rfl (y_add rfl rfl (by simp only [inK]; omega)) ?_
              refine o_val rfl rfl rfl (y_move (v := (.int _ _)) rfl) ?_
              refine o_nil ?_
              exact ⟨LW8.mk (g.i + 1) (g.gs ++ [k3]) A7 c8 E9 (g.its ++ [(IR.mk ((g.i : Nat) : Int) ((g.gs ++ [k3]).getD ((g.i : Nat) : Int).toNat 0) cB cs.length cc cs)]) A39 c40 E41 (cE ++ (cP ++ g.P)) cS, (by first | omega | (dsimp only; omega)), ⟨by dsimp only; omega, by simp only [List.length_append, List.length_singleton]; omega, gens_snoc hgg ⟨hk30, hk31 (by decide)⟩, by dsimp only; rw [List.length_append]; exact ho12, by dsimp only; rw [List.length_append]; exact ho44, all_snoc (fun x hx => ((hii x hx).sub inG_right).sub inG_right) ⟨rfl, hco.2.1, by dsimp only; omega, hco.mem.ms inG_left, fun y hy => ((hcx y hy).sub inG_left).sub inG_right⟩, items_snoc (items_more hip) ⟨(show lastI g.its g.its.length < ((g.i : Nat) : Int) from lastI_lt hie (by omega)), by simp only [List.length_append, List.length_singleton]; omega, rfl, by dsimp only; rw [getD_snoc (by omega), if_pos (by omega)]; omega, hch⟩, all_snoc (fun x hx => by have := hie x hx; dsimp only; omega) (by dsimp only; omega), by simp only [List.length_append, List.length_singleton]; omega, by simp only [List.length_append, List.length_singleton]; omega, hst1⟩, ⟨(congrArg (Value.int .i64) (by (try dsimp only); omega)), rfl, rfl, rfl, rfl, trivial⟩, (by dsimp only; rw [List.length_append, List.length_append]; exact sub_picks [1, 1, 2, 1, 0, 0, 0, 0] rfl)⟩
            · refine o_val rfl rfl rfl (y_load Try.isAgg23 rfl (cel_own 1 rfl rfl)) ?_
              refine o_nil ?_
              refine d_eff2 (k := 1) (k' := 12) (n := 3) (m := 6) rfl rfl (by kernel_rfl) rfl ?_ ?_
              · refine o_val rfl rfl rfl (y_load Try.isAgg45 rfl (cel_own 1 rfl rfl)) ?_
                refine o_nil ?_
                refine d_eff (k := 12) (n := 3) (m := 6) rfl (by kernel_rfl) rfl ?_
                refine o_fn 1 (d := 45) rfl Try.call92 (GenC_c hst1 MSub.ext kB kx.length kc kx ⟨rfl, hko.2.1, by omega, (hko.cels (j := 4) rfl).down, fun x hx => (hkx x hx).sub (inG_ext (j := 5) rfl)⟩ hck) rfl ?_
                rintro _ _ ⟨cB, cc, cE, cP, cS, cs, rfl, hco, hcx, hch, hc16, hst1, rfl⟩
                refine o_nil ?_
                refine d_val (i := 13) rfl (by kernel_rfl) (by kernel_rfl) (by kernel_rfl) rfl rfl rfl (y_build (vs := [(0, .agg #[.int _ _, .int _ _]), (1, .slice _ _ _)]) rfl (GenW_k4 _ _ _ _ _)) ?_
                refine d_eff (k := 14) (n := 5) (m := 6) rfl (by kernel_rfl) rfl ?_
                refine o_lit (vs := [(0, .agg #[.int _ _, .int _ _, .slice _ _ _])]) rfl rfl (GenW_k5 _ _ _ _ _) (fun b45 => ?_)
                refine o_nil ?_
                refine d_eff (k := 15) (n := 5) (m := 6) rfl (by kernel_rfl) rfl ?_
                refine o_append (sz := 3) (bytes := 40) (news := [(.int _ _), (.int _ _), (.slice _ _ _)]) 4 rfl Try.underlying45 Try.type136 rfl rfl rfl rfl rfl hio rfl rfl (Src.slice Try.underlying45 (cels_own 11 rfl rfl) rfl (by simp [Value.oneCell']) (by simp)) (by omega) (fun A46 c47 E48 ho49 hn50 => ?_)
                have ho51 : OS A46 (g.its.length + 1) c47 136 3 ((g.its ++ [(IR.mk ((g.i : Nat) : Int) ((g.gs ++ [k3]).getD ((g.i : Nat) : Int).toNat 0) cB cs.length cc cs)]).flatMap encIt) E48 := os_snoc ho49 rfl
                clear ho49
                refine o_nil ?_
                refine d_val (i := 16) rfl (by kernel_rfl) (by kernel_rfl) (by kernel_rfl) rfl rfl rfl (y_field0 Try.runUnderlying47 rfl Try.sizeOf45 rfl rfl) ?_
                refine d_eff (k := 17) (n := 5) (m := 6) rfl (by kernel_rfl) rfl ?_
                refine o_store (v := (.slice _ _ _)) 3 rfl Try.sizeOf45 rfl rfl rfl rfl ?_
                refine o_nil ?_
                refine d_nil (n := 5) (m := 6) (by kernel_rfl) rfl ?_
                refine s_norm [_, _, _, [(_, .cells [(.slice _ _ _), (.slice _ _ _), (.slice _ _ _)].toArray 47 (0, 0))], _, _, _, _, _, [(_, .cells [(.slice _ _ _), (.slice _ _ _), (.slice _ _ _)].toArray 47 (0, 0))], [(_, .cells [(.int _ _)].toArray 3 (0, 0))], [(_, .cells [(.int _ _), (.int _ _), (.slice _ _ _)].toArray 136 (0, 0))]] rfl ?_
                refine s_forget [(2, (.pointer _)), (3, (.pointer _)), (4, (.pointer _)), (13, (.int _ _)), (14, (.int _ _))] ⟨rfl, rfl, rfl, rfl, rfl, trivial⟩ (fun _f => ?_)
                refine s_region ?_
                refine o_pull 6 ?_
                refine o_pull 3 ?_
                refine o_fuse ?_
                refine o_pull 2 ?_
                refine o_fuse ?_
                refine o_val rfl rfl rfl (y_add rfl rfl (by simp only [inK]; omega)) ?_
                refine o_val rfl rfl rfl (y_move (v := (.int _ _)) rfl) ?_
                refine o_nil ?_
                exact ⟨LW8.mk (g.i + 1) (g.gs ++ [k3]) A7 c8 E9 (g.its ++ [(IR.mk ((g.i : Nat) : Int) ((g.gs ++ [k3]).getD ((g.i : Nat) : Int).toNat 0) cB cs.length cc cs)]) A46 c47 E48 (cE ++ (cP ++ g.P)) cS, (by first | omega | (dsimp only; omega)), ⟨by dsimp only; omega, by simp only [List.length_append, List.length_singleton]; omega, gens_snoc hgg ⟨hk30, hk31 (by decide)⟩, by dsimp only; rw [List.length_append]; exact ho12, by dsimp only; rw [List.length_append]; exact ho51, all_snoc (fun x hx => ((hii x hx).sub inG_right).sub inG_right) ⟨rfl, hco.2.1, by dsimp only; omega, hco.mem.ms inG_left, fun y hy => ((hcx y hy).sub inG_left).sub inG_right⟩, items_snoc (items_more hip) ⟨(show lastI g.its g.its.length < ((g.i : Nat) : Int) from lastI_lt hie (by omega)), by simp only [List.length_append, List.length_singleton]; omega, rfl, by dsimp only; rw [getD_snoc (by omega), if_pos (by omega)]; omega, hch⟩, all_snoc (fun x hx => by have := hie x hx; dsimp only; omega) (by dsimp only; omega), by simp only [List.length_append, List.length_singleton]; omega, by simp only [List.length_append, List.length_singleton]; omega, hst1⟩, ⟨(congrArg (Value.int .i64) (by (try dsimp only); omega)), rfl, rfl, rfl, rfl, trivial⟩, (by dsimp only; rw [List.length_append, List.length_append]; exact sub_picks [1, 1, 2, 1, 0, 0, 0, 0] rfl)⟩
              · refine o_fn 1 (d := 45) rfl Try.call92 (GenC_c hst1 MSub.ext kB kx.length kc kx ⟨rfl, hko.2.1, by omega, (hko.cels (j := 4) rfl).down, fun x hx => (hkx x hx).sub (inG_ext (j := 5) rfl)⟩ hck) rfl ?_
                rintro _ _ ⟨cB, cc, cE, cP, cS, cs, rfl, hco, hcx, hch, hc16, hst1, rfl⟩
                refine o_nil ?_
                refine d_val (i := 13) rfl (by kernel_rfl) (by kernel_rfl) (by kernel_rfl) rfl rfl rfl (y_build (vs := [(0, .agg #[.int _ _, .int _ _]), (1, .slice _ _ _)]) rfl (GenW_k4 _ _ _ _ _)) ?_
                refine d_eff2 (k := 1) (k' := 14) (n := 5) (m := 6) rfl rfl (by kernel_rfl) rfl ?_ ?_
                · refine o_val rfl rfl rfl (y_load Try.isAgg45 rfl (cel_own 3 rfl rfl)) ?_
                  refine o_nil ?_
                  refine d_eff (k := 14) (n := 5) (m := 6) rfl (by kernel_rfl) rfl ?_
                  refine o_lit (vs := [(0, .agg #[.int _ _, .int _ _, .slice _ _ _])]) rfl rfl (GenW_k5 _ _ _ _ _) (fun b52 => ?_)
                  refine o_nil ?_
                  refine d_eff (k := 15) (n := 5) (m := 6) rfl (by kernel_rfl) rfl ?_
                  refine o_append (sz := 3) (bytes := 40) (news := [(.int _ _), (.int _ _), (.slice _ _ _)]) 4 rfl Try.underlying45 Try.type136 rfl rfl rfl rfl rfl hio rfl rfl (Src.slice Try.underlying45 (cels_own 11 rfl rfl) rfl (by simp [Value.oneCell']) (by simp)) (by omega) (fun A53 c54 E55 ho56 hn57 => ?_)
                  have ho58 : OS A53 (g.its.length + 1) c54 136 3 ((g.its ++ [(IR.mk ((g.i : Nat) : Int) ((g.gs ++ [k3]).getD ((g.i : Nat) : Int).toNat 0) cB cs.length cc cs)]).flatMap encIt) E55 := os_snoc ho56 rfl
                  clear ho56
                  refine o_nil ?_
                  refine d_val (i := 16) rfl (by kernel_rfl) (by kernel_rfl) (by kernel_rfl) rfl rfl rfl (y_field0 Try.runUnderlying47 rfl Try.sizeOf45 rfl rfl) ?_
                  refine d_eff (k := 17) (n := 5) (m := 6) rfl (by kernel_rfl) rfl ?_
                  refine o_store (v := (.slice _ _ _)) 3 rfl Try.sizeOf45 rfl rfl rfl rfl ?_
                  refine o_nil ?_
                  refine d_nil (n := 5) (m := 6) (by kernel_rfl) rfl ?_
                  refine s_norm [_, _, _, [(_, .cells [(.slice _ _ _), (.slice _ _ _), (.slice _ _ _)].toArray 47 (0, 0))], _, _, _, _, _, [(_, .cells [(.slice _ _ _), (.slice _ _ _), (.slice _ _ _)].toArray 47 (0, 0))], [(_, .cells [(.int _ _)].toArray 3 (0, 0))], [(_, .cells [(.int _ _), (.int _ _), (.slice _ _ _)].toArray 136 (0, 0))]] rfl ?_
                  refine s_forget [(2, (.pointer _)), (3, (.pointer _)), (4, (.pointer _)), (13, (.int _ _)), (14, (.int _ _))] ⟨rfl, rfl, rfl, rfl, rfl, trivial⟩ (fun _f => ?_)
                  refine s_region ?_
                  refine o_pull 6 ?_
                  refine o_pull 3 ?_
                  refine o_fuse ?_
                  refine o_pull 2 ?_
                  refine o_fuse ?_
                  refine o_val rfl rfl rfl (y_add rfl rfl (by simp only [inK]; omega)) ?_
                  refine o_val rfl rfl rfl (y_move (v := (.int _ _)) rfl) ?_
                  refine o_nil ?_
                  exact ⟨LW8.mk (g.i + 1) (g.gs ++ [k3]) A7 c8 E9 (g.its ++ [(IR.mk ((g.i : Nat) : Int) ((g.gs ++ [k3]).getD ((g.i : Nat) : Int).toNat 0) cB cs.length cc cs)]) A53 c54 E55 (cE ++ (cP ++ g.P)) cS, (by first | omega | (dsimp only; omega)), ⟨by dsimp only; omega, by simp only [List.length_append, List.length_singleton]; omega, gens_snoc hgg ⟨hk30, hk31 (by decide)⟩, by dsimp only; rw [List.length_append]; exact ho12, by dsimp only; rw [List.length_append]; exact ho58, all_snoc (fun x hx => ((hii x hx).sub inG_right).sub inG_right) ⟨rfl, hco.2.1, by dsimp only; omega, hco.mem.ms inG_left, fun y hy => ((hcx y hy).sub inG_left).sub inG_right⟩, items_snoc (items_more hip) ⟨(show lastI g.its g.its.length < ((g.i : Nat) : Int) from lastI_lt hie (by omega)), by simp only [List.length_append, List.length_singleton]; omega, rfl, by dsimp only; rw [getD_snoc (by omega), if_pos (by omega)]; omega, hch⟩, all_snoc (fun x hx => by have := hie x hx; dsimp only; omega) (by dsimp only; omega), by simp only [List.length_append, List.length_singleton]; omega, by simp only [List.length_append, List.length_singleton]; omega, hst1⟩, ⟨(congrArg (Value.int .i64) (by (try dsimp only); omega)), rfl, rfl, rfl, rfl, trivial⟩, (by dsimp only; rw [List.length_append, List.length_append]; exact sub_picks [1, 1, 2, 1, 0, 0, 0, 0] rfl)⟩
                · refine o_lit (vs := [(0, .agg #[.int _ _, .int _ _, .slice _ _ _])]) rfl rfl (GenW_k5 _ _ _ _ _) (fun b59 => ?_)
                  refine o_nil ?_
                  refine d_now (i := 1) [] rfl (by kernel_rfl) (by kernel_rfl) (by kernel_rfl) rfl rfl rfl (y_load Try.isAgg45 rfl (cel_own 3 rfl rfl)) trivial ?_
                  refine d_eff (k := 15) (n := 5) (m := 6) rfl (by kernel_rfl) rfl ?_
                  refine o_append (sz := 3) (bytes := 40) (news := [(.int _ _), (.int _ _), (.slice _ _ _)]) 4 rfl Try.underlying45 Try.type136 rfl rfl rfl rfl rfl hio rfl rfl (Src.slice Try.underlying45 (cels_own 11 rfl rfl) rfl (by simp [Value.oneCell']) (by simp)) (by omega) (fun A60 c61 E62 ho63 hn64 => ?_)
                  have ho65 : OS A60 (g.its.length + 1) c61 136 3 ((g.its ++ [(IR.mk ((g.i : Nat) : Int) ((g.gs ++ [k3]).getD ((g.i : Nat) : Int).toNat 0) cB cs.length cc cs)]).flatMap encIt) E62 := os_snoc ho63 rfl
                  clear ho63
                  refine o_nil ?_
                  refine d_val (i := 16) rfl (by kernel_rfl) (by kernel_rfl) (by kernel_rfl) rfl rfl rfl (y_field0 Try.runUnderlying47 rfl Try.sizeOf45 rfl rfl) ?_
                  refine d_eff (k := 17) (n := 5) (m := 6) rfl (by kernel_rfl) rfl ?_
                  refine o_store (v := (.slice _ _ _)) 3 rfl Try.sizeOf45 rfl rfl rfl rfl ?_
                  refine o_nil ?_
                  refine d_nil (n := 5) (m := 6) (by kernel_rfl) rfl ?_
                  refine s_norm [_, _, _, [(_, .cells [(.slice _ _ _), (.slice _ _ _), (.slice _ _ _)].toArray 47 (0, 0))], _, _, _, _, _, [(_, .cells [(.slice _ _ _), (.slice _ _ _), (.slice _ _ _)].toArray 47 (0, 0))], [(_, .cells [(.int _ _)].toArray 3 (0, 0))], [(_, .cells [(.int _ _), (.int _ _), (.slice _ _ _)].toArray 136 (0, 0))]] rfl ?_
                  refine s_forget [(2, (.pointer _)), (3, (.pointer _)), (4, (.pointer _)), (13, (.int _ _)), (14, (.int _ _))] ⟨rfl, rfl, rfl, rfl, rfl, trivial⟩ (fun _f => ?_)
                  refine s_region ?_
                  refine o_pull 6 ?_
                  refine o_pull 3 ?_
                  refine o_fuse ?_
                  refine o_pull 2 ?_
                  refine o_fuse ?_
                  refine o_val rfl rfl rfl (y_add rfl rfl (by simp only [inK]; omega)) ?_
                  refine o_val rfl rfl rfl (y_move (v := (.int _ _)) rfl) ?_
                  refine o_nil ?_
                  exact ⟨LW8.mk (g.i + 1) (g.gs ++ [k3]) A7 c8 E9 (g.its ++ [(IR.mk ((g.i : Nat) : Int) ((g.gs ++ [k3]).getD ((g.i : Nat) : Int).toNat 0) cB cs.length cc cs)]) A60 c61 E62 (cE ++ (cP ++ g.P)) cS, (by first | omega | (dsimp only; omega)), ⟨by dsimp only; omega, by simp only [List.length_append, List.length_singleton]; omega, gens_snoc hgg ⟨hk30, hk31 (by decide)⟩, by dsimp only; rw [List.length_append]; exact ho12, by dsimp only; rw [List.length_append]; exact ho65, all_snoc (fun x hx => ((hii x hx).sub inG_right).sub inG_right) ⟨rfl, hco.2.1, by dsimp only; omega, hco.mem.ms inG_left, fun y hy => ((hcx y hy).sub inG_left).sub inG_right⟩, items_snoc (items_more hip) ⟨(show lastI g.its g.its.length < ((g.i : Nat) : Int) from lastI_lt hie (by omega)), by simp only [List.length_append, List.length_singleton]; omega, rfl, by dsimp only; rw [getD_snoc (by omega), if_pos (by omega)]; omega, hch⟩, all_snoc (fun x hx => by have := hie x hx; dsimp only; omega) (by dsimp only; omega), by simp only [List.length_append, List.length_singleton]; omega, by simp only [List.length_append, List.length_singleton]; omega, hst1⟩, ⟨(congrArg (Value.int .i64) (by (try dsimp only); omega)), rfl, rfl, rfl, rfl, trivial⟩, (by dsimp only; rw [List.length_append, List.length_append]; exact sub_picks [1, 1, 2, 1, 0, 0, 0, 0] rfl)⟩
          · refine o_val rfl rfl rfl (y_load Try.isAgg23 rfl (cel_own 1 rfl rfl)) ?_
            refine o_nil ?_
            refine d_eff3 (k := 1) (k' := 4) (k'' := 12) (n := 3) (m := 6) rfl rfl rfl (by kernel_rfl) rfl ?_ ?_ ?_
            · refine o_val rfl rfl rfl (y_load Try.isAgg45 rfl (cel_own 1 rfl rfl)) ?_
              refine o_nil ?_
              refine d_eff2 (k := 4) (k' := 12) (n := 3) (m := 6) rfl rfl (by kernel_rfl) rfl ?_ ?_
              · refine o_val rfl rfl rfl (y_load Try.isAgg22 rfl (cel_own 1 rfl rfl)) ?_
                refine o_nil ?_
                refine d_val (i := 6) rfl (by kernel_rfl) (by kernel_rfl) (by kernel_rfl) rfl rfl rfl (y_index1 Try.runUnderlying22 Try.sizeOf3 (ho12.some_of (by omega)) rfl rfl (by omega)) ?_
                refine d_val (i := 7) rfl (by kernel_rfl) (by kernel_rfl) (by kernel_rfl) rfl rfl rfl (y_load Try.isAgg3 rfl (cel_int (ho12.cels (j := 0) rfl) (by simp only [List.length_append, List.length_singleton]; omega))) ?_
                refine d_val (i := 8) rfl (by kernel_rfl) (by kernel_rfl) (by kernel_rfl) rfl rfl rfl (y_build (vs := [(0, .int _ _), (1, .int _ _)]) rfl (GenW_k3 _ _)) ?_
                refine d_eff (k := 12) (n := 3) (m := 6) rfl (by kernel_rfl) rfl ?_
                refine o_fn 1 (d := 45) rfl Try.call92 (GenC_c hst1 MSub.ext kB kx.length kc kx ⟨rfl, hko.2.1, by omega, (hko.cels (j := 4) rfl).down, fun x hx => (hkx x hx).sub (inG_ext (j := 5) rfl)⟩ hck) rfl ?_
                rintro _ _ ⟨cB, cc, cE, cP, cS, cs, rfl, hco, hcx, hch, hc16, hst1, rfl⟩
                refine o_nil ?_
                refine d_val (i := 13) rfl (by kernel_rfl) (by kernel_rfl) (by kernel_rfl) rfl rfl rfl (y_build (vs := [(0, .agg #[.int _ _, .int _ _]), (1, .slice _ _ _)]) rfl (GenW_k4 _ _ _ _ _)) ?_
                refine d_eff (k := 14) (n := 5) (m := 6) rfl (by kernel_rfl) rfl ?_
                refine o_lit (vs := [(0, .agg #[.int _ _, .int _ _, .slice _ _ _])]) rfl rfl (GenW_k5 _ _ _ _ _) (fun b66 => ?_)
                refine o_nil ?_
                refine d_eff (k := 15) (n := 5) (m := 6) rfl (by kernel_rfl) rfl ?_
                refine o_append (sz := 3) (bytes := 40) (news := [(.int _ _), (.int _ _), (.slice _ _ _)]) 4 rfl Try.underlying45 Try.type136 rfl rfl rfl rfl rfl hio rfl rfl (Src.slice Try.underlying45 (cels_own 11 rfl rfl) rfl (by simp [Value.oneCell']) (by simp)) (by omega) (fun A67 c68 E69 ho70 hn71 => ?_)
                have ho72 : OS A67 (g.its.length + 1) c68 136 3 ((g.its ++ [(IR.mk ((g.i : Nat) : Int) ((g.gs ++ [k3]).getD ((g.i : Nat) : Int).toNat 0) cB cs.length cc cs)]).flatMap encIt) E69 := os_snoc ho70 rfl
                clear ho70
                refine o_nil ?_
                refine d_val (i := 16) rfl (by kernel_rfl) (by kernel_rfl) (by kernel_rfl) rfl rfl rfl (y_field0 Try.runUnderlying47 rfl Try.sizeOf45 rfl rfl) ?_
                refine d_eff (k := 17) (n := 5) (m := 6) rfl (by kernel_rfl) rfl ?_
                refine o_store (v := (.slice _ _ _)) 3 rfl Try.sizeOf45 rfl rfl rfl rfl ?_
                refine o_nil ?_
                refine d_nil (n := 5) (m := 6) (by kernel_rfl) rfl ?_
                refine s_norm [_, _, _, [(_, .cells [(.slice _ _ _), (.slice _ _ _), (.slice _ _ _)].toArray 47 (0, 0))], _, _, _, _, _, [(_, .cells [(.slice _ _ _), (.slice _ _ _), (.slice _ _ _)].toArray 47 (0, 0))], [(_, .cells [(.int _ _)].toArray 3 (0, 0))], [(_, .cells [(.int _ _), (.int _ _), (.slice _ _ _)].toArray 136 (0, 0))]] rfl ?_
                refine s_forget [(2, (.pointer _)), (3, (.pointer _)), (4, (.pointer _)), (13, (.int _ _)), (14, (.int _ _))] ⟨rfl, rfl, rfl, rfl, rfl, trivial⟩ (fun _f => ?_)
                refine s_region ?_
                refine o_pull 6 ?_
                refine o_pull 3 ?_
                refine o_fuse ?_
                refine o_pull 2 ?_
                refine o_fuse ?_
                refine o_val rfl rfl rfl (y_add rfl rfl (by simp only [inK]; omega)) ?_
                refine o_val rfl rfl rfl (y_move (v := (.int _ _)) rfl) ?_
                refine o_nil ?_
                exact ⟨LW8.mk (g.i + 1) (g.gs ++ [k3]) A7 c8 E9 (g.its ++ [(IR.mk ((g.i : Nat) : Int) ((g.gs ++ [k3]).getD ((g.i : Nat) : Int).toNat 0) cB cs.length cc cs)]) A67 c68 E69 (cE ++ (cP ++ g.P)) cS, (by first | omega | (dsimp only; omega)), ⟨by dsimp only; omega, by simp only [List.length_append, List.length_singleton]; omega, gens_snoc hgg ⟨hk30, hk31 (by decide)⟩, by dsimp only; rw [List.length_append]; exact ho12, by dsimp only; rw [List.length_append]; exact ho72, all_snoc (fun x hx => ((hii x hx).sub inG_right).sub inG_right) ⟨rfl, hco.2.1, by dsimp only; omega, hco.mem.ms inG_left, fun y hy => ((hcx y hy).sub inG_left).sub inG_right⟩, items_snoc (items_more hip) ⟨(show lastI g.its g.its.length < ((g.i : Nat) : Int) from lastI_lt hie (by omega)), by simp only [List.length_append, List.length_singleton]; omega, rfl, by dsimp only; rw [getD_snoc (by omega), if_pos (by omega)]; omega, hch⟩, all_snoc (fun x hx => by have := hie x hx; dsimp only; omega) (by dsimp only; omega), by simp only [List.length_append, List.length_singleton]; omega, by simp only [List.length_append, List.length_singleton]; omega, hst1⟩, ⟨(congrArg (Value.int .i64) (by (try dsimp only); omega)), rfl, rfl, rfl, rfl, trivial⟩, (by dsimp only; rw [List.length_append, List.length_append]; exact sub_picks [1, 1, 2, 1, 0, 0, 0, 0] rfl)⟩
              · refine o_fn 1 (d := 45) rfl Try.call92 (GenC_c hst1 MSub.ext kB kx.length kc kx ⟨rfl, hko.2.1, by omega, (hko.cels (j := 4) rfl).down, fun x hx => (hkx x hx).sub (inG_ext (j := 5) rfl)⟩ hck) rfl ?_
                rintro _ _ ⟨cB, cc, cE, cP, cS, cs, rfl, hco, hcx, hch, hc16, hst1, rfl⟩
                refine o_nil ?_
                refine d_now (i := 4) [] rfl (by kernel_rfl) (by kernel_rfl) (by kernel_rfl) rfl rfl rfl (y_load Try.isAgg22 rfl (cel_own 3 rfl rfl)) trivial ?_
                refine d_val (i := 6) rfl (by kernel_rfl) (by kernel_rfl) (by kernel_rfl) rfl rfl rfl (y_index1 Try.runUnderlying22 Try.sizeOf3 (ho12.some_of (by omega)) rfl rfl (by omega)) ?_
                refine d_val (i := 7) rfl (by kernel_rfl) (by kernel_rfl) (by kernel_rfl) rfl rfl rfl (y_load Try.isAgg3 rfl (cel_int (ho12.cels (j := 0) rfl) (by simp only [List.length_append, List.length_singleton]; omega))) ?_
                refine d_val (i := 8) rfl (by kernel_rfl) (by kernel_rfl) (by kernel_rfl) rfl rfl rfl (y_build (vs := [(0, .int _ _), (1, .int _ _)]) rfl (GenW_k3 _ _)) ?_
                refine d_val (i := 13) rfl (by kernel_rfl) (by kernel_rfl) (by kernel_rfl) rfl rfl rfl (y_build (vs := [(0, .agg #[.int _ _, .int _ _]), (1, .slice _ _ _)]) rfl (GenW_k4 _ _ _ _ _)) ?_
                refine d_eff (k := 14) (n := 5) (m := 6) rfl (by kernel_rfl) rfl ?_
                refine o_lit (vs := [(0, .agg #[.int _ _, .int _ _, .slice _ _ _])]) rfl rfl (GenW_k5 _ _ _ _ _) (fun b73 => ?_)
                refine o_nil ?_
                refine d_eff (k := 15) (n := 5) (m := 6) rfl (by kernel_rfl) rfl ?_
                refine o_append (sz := 3) (bytes := 40) (news := [(.int _ _), (.int _ _), (.slice _ _ _)]) 4 rfl Try.underlying45 Try.type136 rfl rfl rfl rfl rfl hio rfl rfl (Src.slice Try.underlying45 (cels_own 11 rfl rfl) rfl (by simp [Value.oneCell']) (by simp)) (by omega) (fun A74 c75 E76 ho77 hn78 => ?_)
                have ho79 : OS A74 (g.its.length + 1) c75 136 3 ((g.its ++ [(IR.mk ((g.i : Nat) : Int) ((g.gs ++ [k3]).getD ((g.i : Nat) : Int).toNat 0) cB cs.length cc cs)]).flatMap encIt) E76 := os_snoc ho77 rfl
                clear ho77
                refine o_nil ?_
                refine d_val (i := 16) rfl (by kernel_rfl) (by kernel_rfl) (by kernel_rfl) rfl rfl rfl (y_field0 Try.runUnderlying47 rfl Try.sizeOf45 rfl rfl) ?_
                refine d_eff (k := 17) (n := 5) (m := 6) rfl (by kernel_rfl) rfl ?_
                refine o_store (v := (.slice _ _ _)) 3 rfl Try.sizeOf45 rfl rfl rfl rfl ?_
                refine o_nil ?_
                refine d_nil (n := 5) (m := 6) (by kernel_rfl) rfl ?_
                refine s_norm [_, _, _, [(_, .cells [(.slice _ _ _), (.slice _ _ _), (.slice _ _ _)].toArray 47 (0, 0))], _, _, _, _, _, [(_, .cells [(.slice _ _ _), (.slice _ _ _), (.slice _ _ _)].toArray 47 (0, 0))], [(_, .cells [(.int _ _)].toArray 3 (0, 0))], [(_, .cells [(.int _ _), (.int _ _), (.slice _ _ _)].toArray 136 (0, 0))]] rfl ?_
                refine s_forget [(2, (.pointer _)), (3, (.pointer _)), (4, (.pointer _)), (13, (.int _ _)), (14, (.int _ _))] ⟨rfl, rfl, rfl, rfl, rfl, trivial⟩ (fun _f => ?_)
                refine s_region ?_
                refine o_pull 6 ?_
                refine o_pull 3 ?_
                refine o_fuse ?_
                refine o_pull 2 ?_
                refine o_fuse ?_
                refine o_val rfl rfl rfl (y_add rfl rfl (by simp only [inK]; omega)) ?_
                refine o_val rfl rfl rfl (y_move (v := (.int _ _)) rfl) ?_
                refine o_nil ?_
                exact ⟨LW8.mk (g.i + 1) (g.gs ++ [k3]) A7 c8 E9 (g.its ++ [(IR.mk ((g.i : Nat) : Int) ((g.gs ++ [k3]).getD ((g.i : Nat) : Int).toNat 0) cB cs.length cc cs)]) A74 c75 E76 (cE ++ (cP ++ g.P)) cS, (by first | omega | (dsimp only; omega)), ⟨by dsimp only; omega, by simp only [List.length_append, List.length_singleton]; omega, gens_snoc hgg ⟨hk30, hk31 (by decide)⟩, by dsimp only; rw [List.length_append]; exact ho12, by dsimp only; rw [List.length_append]; exact ho79, all_snoc (fun x hx => ((hii x hx).sub inG_right).sub inG_right) ⟨rfl, hco.2.1, by dsimp only; omega, hco.mem.ms inG_left, fun y hy => ((hcx y hy).sub inG_left).sub inG_right⟩, items_snoc (items_more hip) ⟨(show lastI g.its g.its.length < ((g.i : Nat) : Int) from lastI_lt hie (by omega)), by simp only [List.length_append, List.length_singleton]; omega, rfl, by dsimp only; rw [getD_snoc (by omega), if_pos (by omega)]; omega, hch⟩, all_snoc (fun x hx => by have := hie x hx; dsimp only; omega) (by dsimp only; omega), by simp only [List.length_append, List.length_singleton]; omega, by simp only [List.length_append, List.length_singleton]; omega, hst1⟩, ⟨(congrArg (Value.int .i64) (by (try dsimp only); omega)), rfl, rfl, rfl, rfl, trivial⟩, (by dsimp only; rw [List.length_append, List.length_append]; exact sub_picks [1, 1, 2, 1, 0, 0, 0, 0] rfl)⟩
            · refine o_val rfl rfl rfl (y_load Try.isAgg22 rfl (cel_own 1 rfl rfl)) ?_
              refine o_nil ?_
              refine d_val (i := 6) rfl (by kernel_rfl) (by kernel_rfl) (by kernel_rfl) rfl rfl rfl (y_index1 Try.runUnderlying22 Try.sizeOf3 (ho12.some_of (by omega)) rfl rfl (by omega)) ?_
              refine d_val (i := 7) rfl (by kernel_rfl) (by kernel_rfl) (by kernel_rfl) rfl rfl rfl (y_load Try.isAgg3 rfl (cel_int (ho12.cels (j := 0) rfl) (by simp only [List.length_append, List.length_singleton]; omega))) ?_
              refine d_val (i := 8) rfl (by kernel_rfl) (by kernel_rfl) (by kernel_rfl) rfl rfl rfl (y_build (vs := [(0, .int _ _), (1, .int _ _)]) rfl (GenW_k3 _ _)) ?_
              refine d_eff2 (k := 1) (k' := 12) (n := 3) (m := 6) rfl rfl (by kernel_rfl) rfl ?_ ?_
              · refine o_val rfl rfl rfl (y_load Try.isAgg45 rfl (cel_own 1 rfl rfl)) ?_
                refine o_nil ?_
                refine d_eff (k := 12) (n := 3) (m := 6) rfl (by kernel_rfl) rfl ?_
                refine o_fn 1 (d := 45) rfl Try.call92 (GenC_c hst1 MSub.ext kB kx.length kc kx ⟨rfl, hko.2.1, by omega, (hko.cels (j := 4) rfl).down, fun x hx => (hkx x hx).sub (inG_ext (j := 5) rfl)⟩ hck) rfl ?_
                rintro _ _ ⟨cB, cc, cE, cP, cS, cs, rfl, hco, hcx, hch, hc16, hst1, rfl⟩
                refine o_nil ?_
                refine d_val (i := 13) rfl (by kernel_rfl) (by kernel_rfl) (by kernel_rfl) rfl rfl rfl (y_build (vs := [(0, .agg #[.int _ _, .int _ _]), (1, .slice _ _ _)]) rfl (GenW_k4 _ _ _ _ _)) ?_
                refine d_eff (k := 14) (n := 5) (m := 6) rfl (by kernel_rfl) rfl ?_
                refine o_lit (vs := [(0, .agg #[.int _ _, .int _ _, .slice _ _ _])]) rfl rfl (GenW_k5 _ _ _ _ _) (fun b80 => ?_)
                refine o_nil ?_
                refine d_eff (k := 15) (n := 5) (m := 6) rfl (by kernel_rfl) rfl ?_
                refine o_append (sz := 3) (bytes := 40) (news := [(.int _ _), (.int _ _), (.slice _ _ _)]) 4 rfl Try.underlying45 Try.type136 rfl rfl rfl rfl rfl hio rfl rfl (Src.slice Try.underlying45 (cels_own 11 rfl rfl) rfl (by simp [Value.oneCell']) (by simp)) (by omega) (fun A81 c82 E83 ho84 hn85 => ?_)
                have ho86 : OS A81 (g.its.length + 1) c82 136 3 ((g.its ++ [(IR.mk ((g.i : Nat) : Int) ((g.gs ++ [k3]).getD ((g.i : Nat) : Int).toNat 0) cB cs.length cc cs)]).flatMap encIt) E83 := os_snoc ho84 rfl
                clear ho84
                refine o_nil ?_
                refine d_val (i := 16) rfl (by kernel_rfl) (by kernel_rfl) (by kernel_rfl) rfl rfl rfl (y_field0 Try.runUnderlying47 rfl Try.sizeOf45 rfl rfl) ?_
                refine d_eff (k := 17) (n := 5) (m := 6) rfl (by kernel_rfl) rfl ?_
                refine o_store (v := (.slice _ _ _)) 3 rfl Try.sizeOf45 rfl rfl rfl rfl ?_
                refine o_nil ?_
                refine d_nil (n := 5) (m := 6) (by kernel_rfl) rfl ?_
                refine s_norm [_, _, _, [(_, .cells [(.slice _ _ _), (.slice _ _ _), (.slice _ _ _)].toArray 47 (0, 0))], _, _, _, _, _, [(_, .cells [(.slice _ _ _), (.slice _ _ _), (.slice _ _ _)].toArray 47 (0, 0))], [(_, .cells [(.int _ _)].toArray 3 (0, 0))], [(_, .cells [(.int _ _), (.int _ _), (.slice _ _ _)].toArray 136 (0, 0))]] rfl ?_
                refine s_forget [(2, (.pointer _)), (3, (.pointer _)), (4, (.pointer _)), (13, (.int _ _)), (14, (.int _ _))] ⟨rfl, rfl, rfl, rfl, rfl, trivial⟩ (fun _f => ?_)
                refine s_region ?_
                refine o_pull 6 ?_
                refine o_pull 3 ?_
                refine o_fuse ?_
                refine o_pull 2 ?_
                refine o_fuse ?_
                refine o_val rfl rfl rfl (y_add rfl rfl (by simp only [inK]; omega)) ?_
                refine o_val rfl rfl rfl (y_move (v := (.int _ _)) rfl) ?_
                refine o_nil ?_
                exact ⟨LW8.mk (g.i + 1) (g.gs ++ [k3]) A7 c8 E9 (g.its ++ [(IR.mk ((g.i : Nat) : Int) ((g.gs ++ [k3]).getD ((g.i : Nat) : Int).toNat 0) cB cs.length cc cs)]) A81 c82 E83 (cE ++ (cP ++ g.P)) cS, (by first | omega | (dsimp only; omega)), ⟨by dsimp only; omega, by simp only [List.length_append, List.length_singleton]; omega, gens_snoc hgg ⟨hk30, hk31 (by decide)⟩, by dsimp only; rw [List.length_append]; exact ho12, by dsimp only; rw [List.length_append]; exact ho86, all_snoc (fun x hx => ((hii x hx).sub inG_right).sub inG_right) ⟨rfl, hco.2.1, by dsimp only; omega, hco.mem.ms inG_left, fun y hy => ((hcx y hy).sub inG_left).sub inG_right⟩, items_snoc (items_more hip) ⟨(show lastI g.its g.its.length < ((g.i : Nat) : Int) from lastI_lt hie (by omega)), by simp only [List.length_append, List.length_singleton]; omega, rfl, by dsimp only; rw [getD_snoc (by omega), if_pos (by omega)]; omega, hch⟩, all_snoc (fun x hx => by have := hie x hx; dsimp only; omega) (by dsimp only; omega), by simp only [List.length_append, List.length_singleton]; omega, by simp only [List.length_append, List.length_singleton]; omega, hst1⟩, ⟨(congrArg (Value.int .i64) (by (try dsimp only); omega)), rfl, rfl, rfl, rfl, trivial⟩, (by dsimp only; rw [List.length_append, List.length_append]; exact sub_picks [1, 1, 2, 1, 0, 0, 0, 0] rfl)⟩
              · refine o_fn 1 (d := 45) rfl Try.call92 (GenC_c hst1 MSub.ext kB kx.length kc kx ⟨rfl, hko.2.1, by omega, (hko.cels (j := 4) rfl).down, fun x hx => (hkx x hx).sub (inG_ext (j := 5) rfl)⟩ hck) rfl ?_
                rintro _ _ ⟨cB, cc, cE, cP, cS, cs, rfl, hco, hcx, hch, hc16, hst1, rfl⟩
                refine o_nil ?_
                refine d_val (i := 13) rfl (by kernel_rfl) (by kernel_rfl) (by kernel_rfl) rfl rfl rfl (y_build (vs := [(0, .agg #[.int _ _, .int _ _]), (1, .slice _ _ _)]) rfl (GenW_k4 _ _ _ _ _)) ?_
                refine d_eff2 (k := 1) (k' := 14) (n := 5) (m := 6) rfl rfl (by kernel_rfl) rfl ?_ ?_
                · refine o_val rfl rfl rfl (y_load Try.isAgg45 rfl (cel_own 3 rfl rfl)) ?_
                  refine o_nil ?_
                  refine d_eff (k := 14) (n := 5) (m := 6) rfl (by kernel_rfl) rfl ?_
                  refine o_lit (vs := [(0, .agg #[.int _ _, .int _ _, .slice _ _ _])]) rfl rfl (GenW_k5 _ _ _ _ _) (fun b87 => ?_)
                  refine o_nil ?_
                  refine d_eff (k := 15) (n := 5) (m := 6) rfl (by kernel_rfl) rfl ?_
                  refine o_append (sz := 3) (bytes := 40) (news := [(.int _ _), (.int _ _), (.slice _ _ _)]) 4 rfl Try.underlying45 Try.type136 rfl rfl rfl rfl rfl hio rfl rfl (Src.slice Try.underlying45 (cels_own 11 rfl rfl) rfl (by simp [Value.oneCell']) (by simp)) (by omega) (fun A88 c89 E90 ho91 hn92 => ?_)
                  have ho93 : OS A88 (g.its.length + 1) c89 136 3 ((g.its ++ [(IR.mk ((g.i : Nat) : Int) ((g.gs ++ [k3]).getD ((g.i : Nat) : Int).toNat 0) cB cs.length cc cs)]).flatMap encIt) E90 := os_snoc ho91 rfl
                  clear ho91
                  refine o_nil ?_
                  refine d_val (i := 16) rfl (by kernel_rfl) (by kernel_rfl) (by kernel_rfl) rfl rfl rfl (y_field0 Try.runUnderlying47 rfl Try.sizeOf45 rfl rfl) ?_
                  refine d_eff (k := 17) (n := 5) (m := 6) rfl (by kernel_rfl) rfl ?_
                  refine o_store (v := (.slice _ _ _)) 3 rfl Try.sizeOf45 rfl rfl rfl rfl ?_
                  refine o_nil ?_
                  refine d_nil (n := 5) (m := 6) (by kernel_rfl) rfl ?_
                  refine s_norm [_, _, _, [(_, .cells [(.slice _ _ _), (.slice _ _ _), (.slice _ _ _)].toArray 47 (0, 0))], _, _, _, _, _, [(_, .cells [(.slice _ _ _), (.slice _ _ _), (.slice _ _ _)].toArray 47 (0, 0))], [(_, .cells [(.int _ _)].toArray 3 (0, 0))], [(_, .cells [(.int _ _), (.int _ _), (.slice _ _ _)].toArray 136 (0, 0))]] rfl ?_
                  refine s_forget [(2, (.pointer _)), (3, (.pointer _)), (4, (.pointer _)), (13, (.int _ _)), (14, (.int _ _))] ⟨rfl, rfl, rfl, rfl, rfl, trivial⟩ (fun _f => ?_)
                  refine s_region ?_
                  refine o_pull 6 ?_
                  refine o_pull 3 ?_
                  refine o_fuse ?_
                  refine o_pull 2 ?_
                  refine o_fuse ?_
                  refine o_val rfl rfl rfl (y_add rfl rfl (by simp only [inK]; omega)) ?_
                  refine o_val rfl rfl rfl (y_move (v := (.int _ _)) rfl) ?_
                  refine o_nil ?_
                  exact ⟨LW8.mk (g.i + 1) (g.gs ++ [k3]) A7 c8 E9 (g.its ++ [(IR.mk ((g.i : Nat) : Int) ((g.gs ++ [k3]).getD ((g.i : Nat) : Int).toNat 0) cB cs.length cc cs)]) A88 c89 E90 (cE ++ (cP ++ g.P)) cS, (by first | omega | (dsimp only; omega)), ⟨by dsimp only; omega, by simp only [List.length_append, List.length_singleton]; omega, gens_snoc hgg ⟨hk30, hk31 (by decide)⟩, by dsimp only; rw [List.length_append]; exact ho12, by dsimp only; rw [List.length_append]; exact ho93, all_snoc (fun x hx => ((hii x hx).sub inG_right).sub inG_right) ⟨rfl, hco.2.1, by dsimp only; omega, hco.mem.ms inG_left, fun y hy => ((hcx y hy).sub inG_left).sub inG_right⟩, items_snoc (items_more hip) ⟨(show lastI g.its g.its.length < ((g.i : Nat) : Int) from lastI_lt hie (by omega)), by simp only [List.length_append, List.length_singleton]; omega, rfl, by dsimp only; rw [getD_snoc (by omega), if_pos (by omega)]; omega, hch⟩, all_snoc (fun x hx => by have := hie x hx; dsimp only; omega) (by dsimp only; omega), by simp only [List.length_append, List.length_singleton]; omega, by simp only [List.length_append, List.length_singleton]; omega, hst1⟩, ⟨(congrArg (Value.int .i64) (by (try dsimp only); omega)), rfl, rfl, rfl, rfl, trivial⟩, (by dsimp only; rw [List.length_append, List.length_append]; exact sub_picks [1, 1, 2, 1, 0, 0, 0, 0] rfl)⟩
                · refine o_lit (vs := [(0, .agg #[.int _ _, .int _ _, .slice _ _ _])]) rfl rfl (GenW_k5 _ _ _ _ _) (fun b94 => ?_)
                  refine o_nil ?_
                  refine d_now (i := 1) [] rfl (by kernel_rfl) (by kernel_rfl) (by kernel_rfl) rfl rfl rfl (y_load Try.isAgg45 rfl (cel_own 3 rfl rfl)) trivial ?_
                  refine d_eff (k := 15) (n := 5) (m := 6) rfl (by kernel_rfl) rfl ?_
                  refine o_append (sz := 3) (bytes := 40) (news := [(.int _ _), (.int _ _), (.slice _ _ _)]) 4 rfl Try.underlying45 Try.type136 rfl rfl rfl rfl rfl hio rfl rfl (Src.slice Try.underlying45 (cels_own 11 rfl rfl) rfl (by simp [Value.oneCell']) (by simp)) (by omega) (fun A95 c96 E97 ho98 hn99 => ?_)
                  have ho100 : OS A95 (g.its.length + 1) c96 136 3 ((g.its ++ [(IR.mk ((g.i : Nat) : Int) ((g.gs ++ [k3]).getD ((g.i : Nat) : Int).toNat 0) cB cs.length cc cs)]).flatMap encIt) E97 := os_snoc ho98 rfl
                  clear ho98
                  refine o_nil ?_
                  refine d_val (i := 16) rfl (by kernel_rfl) (by kernel_rfl) (by kernel_rfl) rfl rfl rfl (y_field0 Try.runUnderlying47 rfl Try.sizeOf45 rfl rfl) ?_
                  refine d_eff (k := 17) (n := 5) (m := 6) rfl (by kernel_rfl) rfl ?_
                  refine o_store (v := (.slice _ _ _)) 3 rfl Try.sizeOf45 rfl rfl rfl rfl ?_
                  refine o_nil ?_
                  refine d_nil (n := 5) (m := 6) (by kernel_rfl) rfl ?_
                  refine s_norm [_, _, _, [(_, .cells [(.slice _ _ _), (.slice _ _ _), (.slice _ _ _)].toArray 47 (0, 0))], _, _, _, _, _, [(_, .cells [(.slice _ _ _), (.slice _ _ _), (.slice _ _ _)].toArray 47 (0, 0))], [(_, .cells [(.int _ _)].toArray 3 (0, 0))], [(_, .cells [(.int _ _), (.int _ _), (.slice _ _ _)].toArray 136 (0, 0))]] rfl ?_
                  refine s_forget [(2, (.pointer _)), (3, (.pointer _)), (4, (.pointer _)), (13, (.int _ _)), (14, (.int _ _))] ⟨rfl, rfl, rfl, rfl, rfl, trivial⟩ (fun _f => ?_)
                  refine s_region ?_
                  refine o_pull 6 ?_
                  refine o_pull 3 ?_
                  refine o_fuse ?_
                  refine o_pull 2 ?_
                  refine o_fuse ?_
                  refine o_val rfl rfl rfl (y_add rfl rfl (by simp only [inK]; omega)) ?_
                  refine o_val rfl rfl rfl (y_move (v := (.int _ _)) rfl) ?_
                  refine o_nil ?_
                  exact ⟨LW8.mk (g.i + 1) (g.gs ++ [k3]) A7 c8 E9 (g.its ++ [(IR.mk ((g.i : Nat) : Int) ((g.gs ++ [k3]).getD ((g.i : Nat) : Int).toNat 0) cB cs.length cc cs)]) A95 c96 E97 (cE ++ (cP ++ g.P)) cS, (by first | omega | (dsimp only; omega)), ⟨by dsimp only; omega, by simp only [List.length_append, List.length_singleton]; omega, gens_snoc hgg ⟨hk30, hk31 (by decide)⟩, by dsimp only; rw [List.length_append]; exact ho12, by dsimp only; rw [List.length_append]; exact ho100, all_snoc (fun x hx => ((hii x hx).sub inG_right).sub inG_right) ⟨rfl, hco.2.1, by dsimp only; omega, hco.mem.ms inG_left, fun y hy => ((hcx y hy).sub inG_left).sub inG_right⟩, items_snoc (items_more hip) ⟨(show lastI g.its g.its.length < ((g.i : Nat) : Int) from lastI_lt hie (by omega)), by simp only [List.length_append, List.length_singleton]; omega, rfl, by dsimp only; rw [getD_snoc (by omega), if_pos (by omega)]; omega, hch⟩, all_snoc (fun x hx => by have := hie x hx; dsimp only; omega) (by dsimp only; omega), by simp only [List.length_append, List.length_singleton]; omega, by simp only [List.length_append, List.length_singleton]; omega, hst1⟩, ⟨(congrArg (Value.int .i64) (by (try dsimp only); omega)), rfl, rfl, rfl, rfl, trivial⟩, (by dsimp only; rw [List.length_append, List.length_append]; exact sub_picks [1, 1, 2, 1, 0, 0, 0, 0] rfl)⟩
            · refine o_fn 1 (d := 45) rfl Try.call92 (GenC_c hst1 MSub.ext kB kx.length kc kx ⟨rfl, hko.2.1, by omega, (hko.cels (j := 4) rfl).down, fun x hx => (hkx x hx).sub (inG_ext (j := 5) rfl)⟩ hck) rfl ?_
              rintro _ _ ⟨cB, cc, cE, cP, cS, cs, rfl, hco, hcx, hch, hc16, hst1, rfl⟩
              refine o_nil ?_
              refine d_eff2 (k := 1) (k' := 4) (n := 5) (m := 6) rfl rfl (by kernel_rfl) rfl ?_ ?_
              · refine o_val rfl rfl rfl (y_load Try.isAgg45 rfl (cel_own 3 rfl rfl)) ?_
                refine o_nil ?_
                refine d_now (i := 4) [] rfl (by kernel_rfl) (by kernel_rfl) (by kernel_rfl) rfl rfl rfl (y_load Try.isAgg22 rfl (cel_own 3 rfl rfl)) trivial ?_
                refine d_val (i := 6) rfl (by kernel_rfl) (by kernel_rfl) (by kernel_rfl) rfl rfl rfl (y_index1 Try.runUnderlying22 Try.sizeOf3 (ho12.some_of (by omega)) rfl rfl (by omega)) ?_
                refine d_val (i := 7) rfl (by kernel_rfl) (by kernel_rfl) (by kernel_rfl) rfl rfl rfl (y_load Try.isAgg3 rfl (cel_int (ho12.cels (j := 0) rfl) (by simp only [List.length_append, List.length_singleton]; omega))) ?_
                refine d_val (i := 8) rfl (by kernel_rfl) (by kernel_rfl) (by kernel_rfl) rfl rfl rfl (y_build (vs := [(0, .int _ _), (1, .int _ _)]) rfl (GenW_k3 _ _)) ?_
                refine d_val (i := 13) rfl (by kernel_rfl) (by kernel_rfl) (by kernel_rfl) rfl rfl rfl (y_build (vs := [(0, .agg #[.int _ _, .int _ _]), (1, .slice _ _ _)]) rfl (GenW_k4 _ _ _ _ _)) ?_
                refine d_eff (k := 14) (n := 5) (m := 6) rfl (by kernel_rfl) rfl ?_
                refine o_lit (vs := [(0, .agg #[.int _ _, .int _ _, .slice _ _ _])]) rfl rfl (GenW_k5 _ _ _ _ _) (fun b101 => ?_)
                refine o_nil ?_
                refine d_eff (k := 15) (n := 5) (m := 6) rfl (by kernel_rfl) rfl ?_
                refine o_append (sz := 3) (bytes := 40) (news := [(.int _ _), (.int _ _), (.slice _ _ _)]) 4 rfl Try.underlying45 Try.type136 rfl rfl rfl rfl rfl hio rfl rfl (Src.slice Try.underlying45 (cels_own 11 rfl rfl) rfl (by simp [Value.oneCell']) (by simp)) (by omega) (fun A102 c103 E104 ho105 hn106 => ?_)
                have ho107 : OS A102 (g.its.length + 1) c103 136 3 ((g.its ++ [(IR.mk ((g.i : Nat) : Int) ((g.gs ++ [k3]).getD ((g.i : Nat) : Int).toNat 0) cB cs.length cc cs)]).flatMap encIt) E104 := os_snoc ho105 rfl
                clear ho105
                refine o_nil ?_
                refine d_val (i := 16) rfl (by kernel_rfl) (by kernel_rfl) (by kernel_rfl) rfl rfl rfl (y_field0 Try.runUnderlying47 rfl Try.sizeOf45 rfl rfl) ?_
                refine d_eff (k := 17) (n := 5) (m := 6) rfl (by kernel_rfl) rfl ?_
                refine o_store (v := (.slice _ _ _)) 3 rfl Try.sizeOf45 rfl rfl rfl rfl ?_
                refine o_nil ?_
                refine d_nil (n := 5) (m := 6) (by kernel_rfl) rfl ?_
                refine s_norm [_, _, _, [(_, .cells [(.slice _ _ _), (.slice _ _ _), (.slice _ _ _)].toArray 47 (0, 0))], _, _, _, _, _, [(_, .cells [(.slice _ _ _), (.slice _ _ _), (.slice _ _ _)].toArray 47 (0, 0))], [(_, .cells [(.int _ _)].toArray 3 (0, 0))], [(_, .cells [(.int _ _), (.int _ _), (.slice _ _ _)].toArray 136 (0, 0))]] rfl ?_
                refine s_forget [(2, (.pointer _)), (3, (.pointer _)), (4, (.pointer _)), (13, (.int _ _)), (14, (.int _ _))] ⟨rfl, rfl, rfl, rfl, rfl, trivial⟩ (fun _f => ?_)
                refine s_region ?_
                refine o_pull 6 ?_
                refine o_pull 3 ?_
                refine o_fuse ?_
                refine o_pull 2 ?_
                refine o_fuse ?_
                refine o_val rfl rfl rfl (y_add rfl rfl (by simp only [inK]; omega)) ?_
                refine o_val rfl rfl rfl (y_move (v := (.int _ _)) rfl) ?_
                refine o_nil ?_
                exact ⟨LW8.mk (g.i + 1) (g.gs ++ [k3]) A7 c8 E9 (g.its ++ [(IR.mk ((g.i : Nat) : Int) ((g.gs ++ [k3]).getD ((g.i : Nat) : Int).toNat 0) cB cs.length cc cs)]) A102 c103 E104 (cE ++ (cP ++ g.P)) cS, (by first | omega | (dsimp only; omega)), ⟨by dsimp only; omega, by simp only [List.length_append, List.length_singleton]; omega, gens_snoc hgg ⟨hk30, hk31 (by decide)⟩, by dsimp only; rw [List.length_append]; exact ho12, by dsimp only; rw [List.length_append]; exact ho107, all_snoc (fun x hx => ((hii x hx).sub inG_right).sub inG_right) ⟨rfl, hco.2.1, by dsimp only; omega, hco.mem.ms inG_left, fun y hy => ((hcx y hy).sub inG_left).sub inG_right⟩, items_snoc (items_more hip) ⟨(show lastI g.its g.its.length < ((g.i : Nat) : Int) from lastI_lt hie (by omega)), by simp only [List.length_append, List.length_singleton]; omega, rfl, by dsimp only; rw [getD_snoc (by omega), if_pos (by omega)]; omega, hch⟩, all_snoc (fun x hx => by have := hie x hx; dsimp only; omega) (by dsimp only; omega), by simp only [List.length_append, List.length_singleton]; omega, by simp only [List.length_append, List.length_singleton]; omega, hst1⟩, ⟨(congrArg (Value.int .i64) (by (try dsimp only); omega)), rfl, rfl, rfl, rfl, trivial⟩, (by dsimp only; rw [List.length_append, List.length_append]; exact sub_picks [1, 1, 2, 1, 0, 0, 0, 0] rfl)⟩
              · refine o_val rfl rfl rfl (y_load Try.isAgg22 rfl (cel_own 3 rfl rfl)) ?_
                refine o_nil ?_
                refine d_val (i := 6) rfl (by kernel_rfl) (by kernel_rfl) (by kernel_rfl) rfl rfl rfl (y_index1 Try.runUnderlying22 Try.sizeOf3 (ho12.some_of (by omega)) rfl rfl (by omega)) ?_
                refine d_val (i := 7) rfl (by kernel_rfl) (by kernel_rfl) (by kernel_rfl) rfl rfl rfl (y_load Try.isAgg3 rfl (cel_int (ho12.cels (j := 0) rfl) (by simp only [List.length_append, List.length_singleton]; omega))) ?_
                refine d_val (i := 8) rfl (by kernel_rfl) (by kernel_rfl) (by kernel_rfl) rfl rfl rfl (y_build (vs := [(0, .int _ _), (1, .int _ _)]) rfl (GenW_k3 _ _)) ?_
                refine d_val (i := 13) rfl (by kernel_rfl) (by kernel_rfl) (by kernel_rfl) rfl rfl rfl (y_build (vs := [(0, .agg #[.int _ _, .int _ _]), (1, .slice _ _ _)]) rfl (GenW_k4 _ _ _ _ _)) ?_
                refine d_eff2 (k := 1) (k' := 14) (n := 5) (m := 6) rfl rfl (by kernel_rfl) rfl ?_ ?_
                · refine o_val rfl rfl rfl (y_load Try.isAgg45 rfl (cel_own 3 rfl rfl)) ?_
                  refine o_nil ?_
                  refine d_eff (k := 14) (n := 5) (m := 6) rfl (by kernel_rfl) rfl ?_
                  refine o_lit (vs := [(0, .agg #[.int _ _, .int _ _, .slice _ _ _])]) rfl rfl (GenW_k5 _ _ _ _ _) (fun b108 => ?_)
                  refine o_nil ?_
                  refine d_eff (k := 15) (n := 5) (m := 6) rfl (by kernel_rfl) rfl ?_
                  refine o_append (sz := 3) (bytes := 40) (news := [(.int _ _), (.int _ _), (.slice _ _ _)]) 4 rfl Try.underlying45 Try.type136 rfl rfl rfl rfl rfl hio rfl rfl (Src.slice Try.underlying45 (cels_own 11 rfl rfl) rfl (by simp [Value.oneCell']) (by simp)) (by omega) (fun A109 c110 E111 ho112 hn113 => ?_)
                  have ho114 : OS A109 (g.its.length + 1) c110 136 3 ((g.its ++ [(IR.mk ((g.i : Nat) : Int) ((g.gs ++ [k3]).getD ((g.i : Nat) : Int).toNat 0) cB cs.length cc cs)]).flatMap encIt) E111 := os_snoc ho112 rfl
                  clear ho112
                  refine o_nil ?_
                  refine d_val (i := 16) rfl (by kernel_rfl) (by kernel_rfl) (by kernel_rfl) rfl rfl rfl (y_field0 Try.runUnderlying47 rfl Try.sizeOf45 rfl rfl) ?_
                  refine d_eff (k := 17) (n := 5) (m := 6) rfl (by kernel_rfl) rfl ?_
                  refine o_store (v := (.slice _ _ _)) 3 rfl Try.sizeOf45 rfl rfl rfl rfl ?_
                  refine o_nil ?_
                  refine d_nil (n := 5) (m := 6) (by kernel_rfl) rfl ?_
                  refine s_norm [_, _, _, [(_, .cells [(.slice _ _ _), (.slice _ _ _), (.slice _ _ _)].toArray 47 (0, 0))], _, _, _, _, _, [(_, .cells [(.slice _ _ _), (.slice _ _ _), (.slice _ _ _)].toArray 47 (0, 0))], [(_, .cells [(.int _ _)].toArray 3 (0, 0))], [(_, .cells [(.int _ _), (.int _ _), (.slice _ _ _)].toArray 136 (0, 0))]] rfl ?_
                  refine s_forget [(2, (.pointer _)), (3, (.pointer _)), (4, (.pointer _)), (13, (.int _ _)), (14, (.int _ _))] ⟨rfl, rfl, rfl, rfl, rfl, trivial⟩ (fun _f => ?_)
                  refine s_region ?_
                  refine o_pull 6 ?_
                  refine o_pull 3 ?_
                  refine o_fuse ?_
                  refine o_pull 2 ?_
                  refine o_fuse ?_
                  refine o_val rfl rfl rfl (y_add rfl rfl (by simp only [inK]; omega)) ?_
                  refine o_val rfl rfl rfl (y_move (v := (.int _ _)) rfl) ?_
                  refine o_nil ?_
                  exact ⟨LW8.mk (g.i + 1) (g.gs ++ [k3]) A7 c8 E9 (g.its ++ [(IR.mk ((g.i : Nat) : Int) ((g.gs ++ [k3]).getD ((g.i : Nat) : Int).toNat 0) cB cs.length cc cs)]) A109 c110 E111 (cE ++ (cP ++ g.P)) cS, (by first | omega | (dsimp only; omega)), ⟨by dsimp only; omega, by simp only [List.length_append, List.length_singleton]; omega, gens_snoc hgg ⟨hk30, hk31 (by decide)⟩, by dsimp only; rw [List.length_append]; exact ho12, by dsimp only; rw [List.length_append]; exact ho114, all_snoc (fun x hx => ((hii x hx).sub inG_right).sub inG_right) ⟨rfl, hco.2.1, by dsimp only; omega, hco.mem.ms inG_left, fun y hy => ((hcx y hy).sub inG_left).sub inG_right⟩, items_snoc (items_more hip) ⟨(show lastI g.its g.its.length < ((g.i : Nat) : Int) from lastI_lt hie (by omega)), by simp only [List.length_append, List.length_singleton]; omega, rfl, by dsimp only; rw [getD_snoc (by omega), if_pos (by omega)]; omega, hch⟩, all_snoc (fun x hx => by have := hie x hx; dsimp only; omega) (by dsimp only; omega), by simp only [List.length_append, List.length_singleton]; omega, by simp only [List.length_append, List.length_singleton]; omega, hst1⟩, ⟨(congrArg (Value.int .i64) (by (try dsimp only); omega)), rfl, rfl, rfl, rfl, trivial⟩, (by dsimp only; rw [List.length_append, List.length_append]; exact sub_picks [1, 1, 2, 1, 0, 0, 0, 0] rfl)⟩
                · refine o_lit (vs := [(0, .agg #[.int _ _, .int _ _, .slice _ _ _])]) rfl rfl (GenW_k5 _ _ _ _ _) (fun b115 => ?_)
                  refine o_nil ?_
                  refine d_now (i := 1) [] rfl (by kernel_rfl) (by kernel_rfl) (by kernel_rfl) rfl rfl rfl (y_load Try.isAgg45 rfl (cel_own 3 rfl rfl)) trivial ?_
                  refine d_eff (k := 15) (n := 5) (m := 6) rfl (by kernel_rfl) rfl ?_
                  refine o_append (sz := 3) (bytes := 40) (news := [(.int _ _), (.int _ _), (.slice _ _ _)]) 4 rfl Try.underlying45 Try.type136 rfl rfl rfl rfl rfl hio rfl rfl (Src.slice Try.underlying45 (cels_own 11 rfl rfl) rfl (by simp [Value.oneCell']) (by simp)) (by omega) (fun A116 c117 E118 ho119 hn120 => ?_)
                  have ho121 : OS A116 (g.its.length + 1) c117 136 3 ((g.its ++ [(IR.mk ((g.i : Nat) : Int) ((g.gs ++ [k3]).getD ((g.i : Nat) : Int).toNat 0) cB cs.length cc cs)]).flatMap encIt) E118 := os_snoc ho119 rfl
                  clear ho119
                  refine o_nil ?_
                  refine d_val (i := 16) rfl (by kernel_rfl) (by kernel_rfl) (by kernel_rfl) rfl rfl rfl (y_field0 Try.runUnderlying47 rfl Try.sizeOf45 rfl rfl) ?_
                  refine d_eff (k := 17) (n := 5) (m := 6) rfl (by kernel_rfl) rfl ?_
                  refine o_store (v := (.slice _ _ _)) 3 rfl Try.sizeOf45 rfl rfl rfl rfl ?_
                  refine o_nil ?_
                  refine d_nil (n := 5) (m := 6) (by kernel_rfl) rfl ?_
                  refine s_norm [_, _, _, [(_, .cells [(.slice _ _ _), (.slice _ _ _), (.slice _ _ _)].toArray 47 (0, 0))], _, _, _, _, _, [(_, .cells [(.slice _ _ _), (.slice _ _ _), (.slice _ _ _)].toArray 47 (0, 0))], [(_, .cells [(.int _ _)].toArray 3 (0, 0))], [(_, .cells [(.int _ _), (.int _ _), (.slice _ _ _)].toArray 136 (0, 0))]] rfl ?_
                  refine s_forget [(2, (.pointer _)), (3, (.pointer _)), (4, (.pointer _)), (13, (.int _ _)), (14, (.int _ _))] ⟨rfl, rfl, rfl, rfl, rfl, trivial⟩ (fun _f => ?_)
                  refine s_region ?_
                  refine o_pull 6 ?_
                  refine o_pull 3 ?_
                  refine o_fuse ?_
                  refine o_pull 2 ?_
                  refine o_fuse ?_
                  refine o_val rfl rfl rfl (y_add rfl rfl (by simp only [inK]; omega)) ?_
                  refine o_val rfl rfl rfl (y_move (v := (.int _ _)) rfl) ?_
                  refine o_nil ?_
                  exact ⟨LW8.mk (g.i + 1) (g.gs ++ [k3]) A7 c8 E9 (g.its ++ [(IR.mk ((g.i : Nat) : Int) ((g.gs ++ [k3]).getD ((g.i : Nat) : Int).toNat 0) cB cs.length cc cs)]) A116 c117 E118 (cE ++ (cP ++ g.P)) cS, (by first | omega | (dsimp only; omega)), ⟨by dsimp only; omega, by simp only [List.length_append, List.length_singleton]; omega, gens_snoc hgg ⟨hk30, hk31 (by decide)⟩, by dsimp only; rw [List.length_append]; exact ho12, by dsimp only; rw [List.length_append]; exact ho121, all_snoc (fun x hx => ((hii x hx).sub inG_right).sub inG_right) ⟨rfl, hco.2.1, by dsimp only; omega, hco.mem.ms inG_left, fun y hy => ((hcx y hy).sub inG_left).sub inG_right⟩, items_snoc (items_more hip) ⟨(show lastI g.its g.its.length < ((g.i : Nat) : Int) from lastI_lt hie (by omega)), by simp only [List.length_append, List.length_singleton]; omega, rfl, by dsimp only; rw [getD_snoc (by omega), if_pos (by omega)]; omega, hch⟩, all_snoc (fun x hx => by have := hie x hx; dsimp only; omega) (by dsimp only; omega), by simp only [List.length_append, List.length_singleton]; omega, by simp only [List.length_append, List.length_singleton]; omega, hst1⟩, ⟨(congrArg (Value.int .i64) (by (try dsimp only); omega)), rfl, rfl, rfl, rfl, trivial⟩, (by dsimp only; rw [List.length_append, List.length_append]; exact sub_picks [1, 1, 2, 1, 0, 0, 0, 0] rfl)⟩
    · refine o_fn 1 (d := 20) rfl Try.call87 (NextS_c hst1 (hm0 := MSub.ext) 3 (by omega)) rfl ?_
      rintro _ _ ⟨k3, sG', rfl, hk30, hk31, hst1, rfl⟩
      refine o_nil ?_
      refine d_eff2 (k := 1) (k' := 4) (n := 3) (m := 5) rfl rfl (by kernel_rfl) rfl ?_ ?_
      · refine o_val rfl rfl rfl (y_load Try.isAgg22 rfl (cel_own 1 rfl rfl)) ?_
        refine o_nil ?_
        refine d_eff (k := 4) (n := 3) (m := 5) rfl (by kernel_rfl) rfl ?_
        refine o_lit (vs := [(0, .int _ _)]) rfl rfl (GenW_k2 _) (fun b122 => ?_)
        refine o_nil ?_
        refine d_eff (k := 5) (n := 3) (m := 5) rfl (by kernel_rfl) rfl ?_
        refine o_append (sz := 1) (bytes := 8) (news := [(.int _ _)]) 2 rfl Try.underlying22 Try.type3 rfl rfl rfl rfl rfl hgo rfl rfl (Src.slice Try.underlying22 (cels_own 8 rfl rfl) rfl (by simp [Value.oneCell']) (by simp)) (by omega) (fun A123 c124 E125 ho126 hn127 => ?_)
        have ho128 : OS A123 (g.gs.length + 1) c124 3 1 ((g.gs ++ [k3]).map (.int .i64)) E125 := (os_eq ho126 (by rw [List.map_append]; rfl))
        clear ho126
        refine o_nil ?_
        refine d_val (i := 6) rfl (by kernel_rfl) (by kernel_rfl) (by kernel_rfl) rfl rfl rfl (y_field0 Try.runUnderlying47 rfl Try.sizeOf22 rfl rfl) ?_
        refine d_eff (k := 7) (n := 3) (m := 5) rfl (by kernel_rfl) rfl ?_
        refine o_store (v := (.slice _ _ _)) 1 rfl Try.sizeOf22 rfl rfl rfl rfl ?_
        refine o_nil ?_
        refine d_nil (n := 3) (m := 5) (by kernel_rfl) rfl ?_
        refine s_norm [_, [(_, .cells [(.slice _ _ _), (.slice _ _ _), (.slice _ _ _)].toArray 47 (0, 0))], _, _, _, _, _, [(_, .cells [(.slice _ _ _), (.slice _ _ _), (.slice _ _ _)].toArray 47 (0, 0))], [(_, .cells [(.int _ _)].toArray 3 (0, 0))]] rfl ?_
        refine s_forget [(2, (.pointer _)), (3, (.pointer _)), (4, (.pointer _)), (5, (.int _ _)), (13, (.int _ _)), (14, (.int _ _))] ⟨rfl, rfl, rfl, rfl, rfl, rfl, trivial⟩ (fun _f => ?_)
        refine s_seq ?_
        refine s_seq ?_
        refine s_region ?_
        refine o_val rfl rfl rfl (y_move (v := (.pointer _)) rfl) ?_
        refine o_fn 1 (d := 25) rfl Try.call87 (NextS_c hst1 (hm0 := MSub.ext) 4 (by omega)) rfl ?_
        rintro _ _ ⟨k4, sG', rfl, hk40, hk41, hst1, rfl⟩
        refine o_split rfl rfl rfl (y_eql rfl rfl) (fun p129 => ?_) (fun p130 => ?_)
        · refine o_val rfl rfl rfl (y_move (v := (.bool _)) rfl) ?_
          refine o_guard_no rfl rfl rfl rfl rfl ?_
          refine o_guard_no rfl rfl rfl rfl rfl ?_
          refine o_guard_no rfl rfl rfl rfl rfl ?_
          refine o_guard_no rfl rfl rfl rfl rfl ?_
          refine o_val rfl rfl rfl (y_pick_t (v := (.bool _)) rfl rfl) ?_
          refine o_nil ?_
          refine s_then rfl ?_
          refine s_exit ?_
          refine s_region ?_
          refine o_val rfl rfl rfl (y_add rfl rfl (by simp only [inK]; omega)) ?_
          refine o_val rfl rfl rfl (y_move (v := (.int _ _)) rfl) ?_
          refine o_nil ?_
          exact ⟨LW8.mk (g.i + 1) (g.gs ++ [k3]) A123 c124 E125 g.its g.iA g.iC g.iE g.P sG', (by first | omega | (dsimp only; omega)), ⟨by dsimp only; omega, by simp only [List.length_append, List.length_singleton]; omega, gens_snoc hgg ⟨hk30, hk31 (by decide)⟩, by dsimp only; rw [List.length_append]; exact ho128, hio, hii, items_more hip, fun x hx => by have := hie x hx; dsimp only; omega, hi8, by dsimp only; omega, hst1⟩, ⟨(congrArg (Value.int .i64) (by (try dsimp only); omega)), rfl, rfl, rfl, rfl, trivial⟩, (by dsimp only; rw [List.length_append]; exact sub_picks [0, 0, 0, 0, 0, 0, 0, 0] rfl)⟩
        · refine o_val rfl rfl rfl (y_move (v := (.bool _)) rfl) ?_
          refine o_guard_yes rfl rfl ?_
          refine o_val rfl rfl rfl (y_field0 Try.runUnderlying47 rfl Try.sizeOf45 rfl rfl) ?_
          refine o_guard_yes rfl rfl ?_
          refine o_val rfl rfl rfl (y_load Try.isAgg45 rfl (cel_own 1 rfl rfl)) ?_
          refine o_guard_yes rfl rfl ?_
          refine o_val rfl rfl rfl (y_len Try.runUnderlying45 rfl) ?_
          refine o_guard_yes rfl rfl ?_
          refine o_val rfl rfl rfl (y_eql rfl rfl) ?_
          refine o_val rfl rfl rfl (y_pick_f (v := (.bool _)) rfl rfl) ?_
          refine o_nil ?_
          refine s_if rfl (fun h131 => ?_) (fun h132 => ?_)
          · refine s_exit ?_
            refine s_region ?_
            refine o_val rfl rfl rfl (y_add rfl rfl (by simp only [inK]; omega)) ?_
            refine o_val rfl rfl rfl (y_move (v := (.int _ _)) rfl) ?_
            refine o_nil ?_
            exact ⟨LW8.mk (g.i + 1) (g.gs ++ [k3]) A123 c124 E125 g.its g.iA g.iC g.iE g.P sG', (by first | omega | (dsimp only; omega)), ⟨by dsimp only; omega, by simp only [List.length_append, List.length_singleton]; omega, gens_snoc hgg ⟨hk30, hk31 (by decide)⟩, by dsimp only; rw [List.length_append]; exact ho128, hio, hii, items_more hip, fun x hx => by have := hie x hx; dsimp only; omega, hi8, by dsimp only; omega, hst1⟩, ⟨(congrArg (Value.int .i64) (by (try dsimp only); omega)), rfl, rfl, rfl, rfl, trivial⟩, (by dsimp only; rw [List.length_append]; exact sub_picks [0, 0, 0, 0, 0, 0, 0, 0] rfl)⟩
          · refine s_skip ?_
            refine s_pull 3 ?_
            refine s_pull 2 ?_
            refine s_pull 2 ?_
            refine s_drawn 3 (by kernel_rfl) ?_
            refine d_val (i := 0) rfl (by kernel_rfl) (by kernel_rfl) (by kernel_rfl) rfl rfl rfl (y_field0 Try.runUnderlying47 rfl Try.sizeOf45 rfl rfl) ?_
            refine d_val (i := 2) rfl (by kernel_rfl) (by kernel_rfl) (by kernel_rfl) rfl rfl rfl (y_move (v := (.int _ _)) rfl) ?_
            refine d_val (i := 3) rfl (by kernel_rfl) (by kernel_rfl) (by kernel_rfl) rfl rfl rfl (y_field0 Try.runUnderlying47 rfl Try.sizeOf22 rfl rfl) ?_
            refine d_val (i := 5) rfl (by kernel_rfl) (by kernel_rfl) (by kernel_rfl) rfl rfl rfl (y_move (v := (.int _ _)) rfl) ?_
            refine d_val (i := 9) rfl (by kernel_rfl) (by kernel_rfl) (by kernel_rfl) rfl rfl rfl (y_field0 Try.runUnderlying47 rfl Try.sizeOf23 rfl rfl) ?_
            refine d_val (i := 11) rfl (by kernel_rfl) (by kernel_rfl) (by kernel_rfl) rfl rfl rfl (y_move (v := (.pointer _)) rfl) ?_
            refine d_eff3 (k := 1) (k' := 4) (k'' := 10) (n := 3) (m := 6) rfl rfl rfl (by kernel_rfl) rfl ?_ ?_ ?_
            · refine o_val rfl rfl rfl (y_load Try.isAgg45 rfl (cel_own 1 rfl rfl)) ?_
              refine o_nil ?_
              refine d_eff2 (k := 4) (k' := 10) (n := 3) (m := 6) rfl rfl (by kernel_rfl) rfl ?_ ?_
              · refine o_val rfl rfl rfl (y_load Try.isAgg22 rfl (cel_own 1 rfl rfl)) ?_
                refine o_nil ?_
                refine d_val (i := 6) rfl (by kernel_rfl) (by kernel_rfl) (by kernel_rfl) rfl rfl rfl (y_index1 Try.runUnderlying22 Try.sizeOf3 (ho128.some_of (by omega)) rfl rfl (by omega)) ?_
                refine d_val (i := 7) rfl (by kernel_rfl) (by kernel_rfl) (by kernel_rfl) rfl rfl rfl (y_load Try.isAgg3 rfl (cel_int (ho128.cels (j := 0) rfl) (by simp only [List.length_append, List.length_singleton]; omega))) ?_
                refine d_val (i := 8) rfl (by kernel_rfl) (by kernel_rfl) (by kernel_rfl) rfl rfl rfl (y_build (vs := [(0, .int _ _), (1, .int _ _)]) rfl (GenW_k3 _ _)) ?_
                refine d_now (i := 10) [] rfl (by kernel_rfl) (by kernel_rfl) (by kernel_rfl) rfl rfl rfl (y_load Try.isAgg23 rfl (cel_own 1 rfl rfl)) trivial ?_
                refine d_eff (k := 12) (n := 3) (m := 6) rfl (by kernel_rfl) rfl ?_
                refine o_fn 1 (d := 45) rfl Try.call92 (GenC_c hst1 MSub.ext kB kx.length kc kx ⟨rfl, hko.2.1, by omega, (hko.cels (j := 4) rfl).down, fun x hx => (hkx x hx).sub (inG_ext (j := 5) rfl)⟩ hck) rfl ?_
                rintro _ _ ⟨cB, cc, cE, cP, cS, cs, rfl, hco, hcx, hch, hc16, hst1, rfl⟩
                refine o_nil ?_
                refine d_val (i := 13) rfl (by kernel_rfl) (by kernel_rfl) (by kernel_rfl) rfl rfl rfl (y_build (vs := [(0, .agg #[.int _ _, .int _ _]), (1, .slice _ _ _)]) rfl (GenW_k4 _ _ _ _ _)) ?_
                refine d_eff (k := 14) (n := 5) (m := 6) rfl (by kernel_rfl) rfl ?_
                refine o_lit (vs := [(0, .agg #[.int _ _, .int _ _, .slice _ _ _])]) rfl rfl (GenW_k5 _ _ _ _ _) (fun b133 => ?_)
                refine o_nil ?_
                refine d_eff (k := 15) (n := 5) (m := 6) rfl (by kernel_rfl) rfl ?_
                refine o_append (sz := 3) (bytes := 40) (news := [(.int _ _), (.int _ _), (.slice _ _ _)]) 4 rfl Try.underlying45 Try.type136 rfl rfl rfl rfl rfl hio rfl rfl (Src.slice Try.underlying45 (cels_own 11 rfl rfl) rfl (by simp [Value.oneCell']) (by simp)) (by omega) (fun A134 c135 E136 ho137 hn138 => ?_)
                have ho139 : OS A134 (g.its.length + 1) c135 136 3 ((g.its ++ [(IR.mk ((g.i : Nat) : Int) ((g.gs ++ [k3]).getD ((g.i : Nat) : Int).toNat 0) cB cs.length cc cs)]).flatMap encIt) E136 := os_snoc ho137 rfl
                clear ho137
                refine o_nil ?_
                refine d_val (i := 16) rfl (by kernel_rfl) (by kernel_rfl) (by kernel_rfl) rfl rfl rfl (y_field0 Try.runUnderlying47 rfl Try.sizeOf45 rfl rfl) ?_
                refine d_eff (k := 17) (n := 5) (m := 6) rfl (by kernel_rfl) rfl ?_
                refine o_store (v := (.slice _ _ _)) 3 rfl Try.sizeOf45 rfl rfl rfl rfl ?_
                refine o_nil ?_
                refine d_nil (n := 5) (m := 6) (by kernel_rfl) rfl ?_
                refine s_norm [_, _, _, [(_, .cells [(.slice _ _ _), (.slice _ _ _), (.slice _ _ _)].toArray 47 (0, 0))], _, _, _, _, _, [(_, .cells [(.slice _ _ _), (.slice _ _ _), (.slice _ _ _)].toArray 47 (0, 0))], [(_, .cells [(.int _ _)].toArray 3 (0, 0))], [(_, .cells [(.int _ _), (.int _ _), (.slice _ _ _)].toArray 136 (0, 0))]] rfl ?_
                refine s_forget [(2, (.pointer _)), (3, (.pointer _)), (4, (.pointer _)), (13, (.int _ _)), (14, (.int _ _))] ⟨rfl, rfl, rfl, rfl, rfl, trivial⟩ (fun _f => ?_)
                refine s_region ?_
                refine o_pull 6 ?_
                refine o_pull 3 ?_
                refine o_fuse ?_
                refine o_pull 2 ?_
                refine o_fuse ?_
                refine o_val rfl rfl rfl (y_add rfl rfl (by simp only [inK]; omega)) ?_
                refine o_val rfl rfl rfl (y_move (v := (.int _ _)) rfl) ?_
                refine o_nil ?_
                exact ⟨LW8.mk (g.i + 1) (g.gs ++ [k3]) A123 c124 E125 (g.its ++ [(IR.mk ((g.i : Nat) : Int) ((g.gs ++ [k3]).getD ((g.i : Nat) : Int).toNat 0) cB cs.length cc cs)]) A134 c135 E136 (cE ++ (cP ++ g.P)) cS, (by first | omega | (dsimp only; omega)), ⟨by dsimp only; omega, by simp only [List.length_append, List.length_singleton]; omega, gens_snoc hgg ⟨hk30, hk31 (by decide)⟩, by dsimp only; rw [List.length_append]; exact ho128, by dsimp only; rw [List.length_append]; exact ho139, all_snoc (fun x hx => ((hii x hx).sub inG_right).sub inG_right) ⟨rfl, hco.2.1, by dsimp only; omega, hco.mem.ms inG_left, fun y hy => ((hcx y hy).sub inG_left).sub inG_right⟩, items_snoc (items_more hip) ⟨(show lastI g.its g.its.length < ((g.i : Nat) : Int) from lastI_lt hie (by omega)), by simp only [List.length_append, List.length_singleton]; omega, rfl, by dsimp only; rw [getD_snoc (by omega), if_pos (by omega)]; omega, hch⟩, all_snoc (fun x hx => by have := hie x hx; dsimp only; omega) (by dsimp only; omega), by simp only [List.length_append, List.length_singleton]; omega, by simp only [List.length_append, List.length_singleton]; omega, hst1⟩, ⟨(congrArg (Value.int .i64) (by (try dsimp only); omega)), rfl, rfl, rfl, rfl, trivial⟩, (by dsimp only; rw [List.length_append, List.length_append]; exact sub_picks [1, 1, 2, 1, 0, 0, 0, 0] rfl)⟩
              · refine o_val rfl rfl rfl (y_load Try.isAgg23 rfl (cel_own 1 rfl rfl)) ?_
                refine o_nil ?_
                refine d_eff2 (k := 4) (k' := 12) (n := 3) (m := 6) rfl rfl (by kernel_rfl) rfl ?_ ?_
                · refine o_val rfl rfl rfl (y_load Try.isAgg22 rfl (cel_own 1 rfl rfl)) ?_
                  refine o_nil ?_
                  refine d_val (i := 6) rfl (by kernel_rfl) (by kernel_rfl) (by kernel_rfl) rfl rfl rfl (y_index1 Try.runUnderlying22 Try.sizeOf3 (ho128.some_of (by omega)) rfl rfl (by omega)) ?_
                  refine d_val (i := 7) rfl (by kernel_rfl) (by kernel_rfl) (by kernel_rfl) rfl rfl rfl (y_load Try.isAgg3 rfl (cel_int (ho128.cels (j := 0) rfl) (by simp only [List.length_append, List.length_singleton]; omega))) ?_
                  refine d_val (i := 8) rfl (by kernel_rfl) (by kernel_rfl) (by kernel_rfl) rfl rfl rfl (y_build (vs := [(0, .int _ _), (1, .int _ _)]) rfl (GenW_k3 _ _)) ?_
                  refine d_eff (k := 12) (n := 3) (m := 6) rfl (by kernel_rfl) rfl ?_
                  refine o_fn 1 (d := 45) rfl Try.call92 (GenC_c hst1 MSub.ext kB kx.length kc kx ⟨rfl, hko.2.1, by omega, (hko.cels (j := 4) rfl).down, fun x hx => (hkx x hx).sub (inG_ext (j := 5) rfl)⟩ hck) rfl ?_
                  rintro _ _ ⟨cB, cc, cE, cP, cS, cs, rfl, hco, hcx, hch, hc16, hst1, rfl⟩
                  refine o_nil ?_
                  refine d_val (i := 13) rfl (by kernel_rfl) (by kernel_rfl) (by kernel_rfl) rfl rfl rfl (y_build (vs := [(0, .agg #[.int _ _, .int _ _]), (1, .slice _ _ _)]) rfl (GenW_k4 _ _ _ _ _)) ?_
                  refine d_eff (k := 14) (n := 5) (m := 6) rfl (by kernel_rfl) rfl ?_
                  refine o_lit (vs := [(0, .agg #[.int _ _, .int _ _, .slice _ _ _])]) rfl rfl (GenW_k5 _ _ _ _ _) (fun b140 => ?_)
                  refine o_nil ?_
                  refine d_eff (k := 15) (n := 5) (m := 6) rfl (by kernel_rfl) rfl ?_
                  refine o_append (sz := 3) (bytes := 40) (news := [(.int _ _), (.int _ _), (.slice _ _ _)]) 4 rfl Try.underlying45 Try.type136 rfl rfl rfl rfl rfl hio rfl rfl (Src.slice Try.underlying45 (cels_own 11 rfl rfl) rfl (by simp [Value.oneCell']) (by simp)) (by omega) (fun A141 c142 E143 ho144 hn145 => ?_)
                  have ho146 : OS A141 (g.its.length + 1) c142 136 3 ((g.its ++ [(IR.mk ((g.i : Nat) : Int) ((g.gs ++ [k3]).getD ((g.i : Nat) : Int).toNat 0) cB cs.length cc cs)]).flatMap encIt) E143 := os_snoc ho144 rfl
                  clear ho144
                  refine o_nil ?_
                  refine d_val (i := 16) rfl (by kernel_rfl) (by kernel_rfl) (by kernel_rfl) rfl rfl rfl (y_field0 Try.runUnderlying47 rfl Try.sizeOf45 rfl rfl) ?_
                  refine d_eff (k := 17) (n := 5) (m := 6) rfl (by kernel_rfl) rfl ?_
                  refine o_store (v := (.slice _ _ _)) 3 rfl Try.sizeOf45 rfl rfl rfl rfl ?_
                  refine o_nil ?_
                  refine d_nil (n := 5) (m := 6) (by kernel_rfl) rfl ?_
                  refine s_norm [_, _, _, [(_, .cells [(.slice _ _ _), (.slice _ _ _), (.slice _ _ _)].toArray 47 (0, 0))], _, _, _, _, _, [(_, .cells [(.slice _ _ _), (.slice _ _ _), (.slice _ _ _)].toArray 47 (0, 0))], [(_, .cells [(.int _ _)].toArray 3 (0, 0))], [(_, .cells [(.int _ _), (.int _ _), (.slice _ _ _)].toArray 136 (0, 0))]] rfl ?_
                  refine s_forget [(2, (.pointer _)), (3, (.pointer _)), (4, (.pointer _)), (13, (.int _ _)), (14, (.int _ _))] ⟨rfl, rfl, rfl, rfl, rfl, trivial⟩ (fun _f => ?_)
                  refine s_region ?_
                  refine o_pull 6 ?_
                  refine o_pull 3 ?_
                  refine o_fuse ?_
                  refine o_pull 2 ?_
                  refine o_fuse ?_
                  refine o_val rfl rfl rfl (y_add rfl rfl (by simp only [inK]; omega)) ?_
                  refine o_val rfl rfl rfl (y_move (v := (.int _ _)) rfl) ?_
                  refine o_nil ?_
                  exact ⟨LW8.mk (g.i + 1) (g.gs ++ [k3]) A123 c124 E125 (g.its ++ [(IR.mk ((g.i : Nat) : Int) ((g.gs ++ [k3]).getD ((g.i : Nat) : Int).toNat 0) cB cs.length cc cs)]) A141 c142 E143 (cE ++ (cP ++ g.P)) cS, (by first | omega | (dsimp only; omega)), ⟨by dsimp only; omega, by simp only [List.length_append, List.length_singleton]; omega, gens_snoc hgg ⟨hk30, hk31 (by decide)⟩, by dsimp only; rw [List.length_append]; exact ho128, by dsimp only; rw [List.length_append]; exact ho146, all_snoc (fun x hx => ((hii x hx).sub inG_right).sub inG_right) ⟨rfl, hco.2.1, by dsimp only; omega, hco.mem.ms inG_left, fun y hy => ((hcx y hy).sub inG_left).sub inG_right⟩, items_snoc (items_more hip) ⟨(show lastI g.its g.its.length < ((g.i : Nat) : Int) from lastI_lt hie (by omega)), by simp only [List.length_append, List.length_singleton]; omega, rfl, by dsimp only; rw [getD_snoc (by omega), if_pos (by omega)]; omega, hch⟩, all_snoc (fun x hx => by have := hie x hx; dsimp only; omega) (by dsimp only; omega), by simp only [List.length_append, List.length_singleton]; omega, by simp only [List.length_append, List.length_singleton]; omega, hst1⟩, ⟨(congrArg (Value.int .i64) (by (try dsimp only); omega)), rfl, rfl, rfl, rfl, trivial⟩, (by dsimp only; rw [List.length_append, List.length_append]; exact sub_picks [1, 1, 2, 1, 0, 0, 0, 0] rfl)⟩
                · refine o_fn 1 (d := 45) rfl Try.call92 (GenC_c hst1 MSub.ext kB kx.length kc kx ⟨rfl, hko.2.1, by omega, (hko.cels (j := 4) rfl).down, fun x hx => (hkx x hx).sub (inG_ext (j := 5) rfl)⟩ hck) rfl ?_
                  rintro _ _ ⟨cB, cc, cE, cP, cS, cs, rfl, hco, hcx, hch, hc16, hst1, rfl⟩
                  refine o_nil ?_
                  refine d_now (i := 4) [] rfl (by kernel_rfl) (by kernel_rfl) (by kernel_rfl) rfl rfl rfl (y_load Try.isAgg22 rfl (cel_own 3 rfl rfl)) trivial ?_
                  refine d_val (i := 6) rfl (by kernel_rfl) (by kernel_rfl) (by kernel_rfl) rfl rfl rfl (y_index1 Try.runUnderlying22 Try.sizeOf3 (ho128.some_of (by omega)) rfl rfl (by omega)) ?_
                  refine d_val (i := 7) rfl (by kernel_rfl) (by kernel_rfl) (by kernel_rfl) rfl rfl rfl (y_load Try.isAgg3 rfl (cel_int (ho128.cels (j := 0) rfl) (by simp only [List.length_append, List.length_singleton]; omega))) ?_
                  refine d_val (i := 8) rfl (by kernel_rfl) (by kernel_rfl) (by kernel_rfl) rfl rfl rfl (y_build (vs := [(0, .int _ _), (1, .int _ _)]) rfl (GenW_k3 _ _)) ?_
                  refine d_val (i := 13) rfl (by kernel_rfl) (by kernel_rfl) (by kernel_rfl) rfl rfl rfl (y_build (vs := [(0, .agg #[.int _ _, .int _ _]), (1, .slice _ _ _)]) rfl (GenW_k4 _ _ _ _ _)) ?_
                  refine d_eff (k := 14) (n := 5) (m := 6) rfl (by kernel_rfl) rfl ?_
                  refine o_lit (vs := [(0, .agg #[.int _ _, .int _ _, .slice _ _ _])]) rfl rfl (GenW_k5 _ _ _ _ _) (fun b147 => ?_)
                  refine o_nil ?_
                  refine d_eff (k := 15) (n := 5) (m := 6) rfl (by kernel_rfl) rfl ?_
                  refine o_append (sz := 3) (bytes := 40) (news := [(.int _ _), (.int _ _), (.slice _ _ _)]) 4 rfl Try.underlying45 Try.type136 rfl rfl rfl rfl rfl hio rfl rfl (Src.slice Try.underlying45 (cels_own 11 rfl rfl) rfl (by simp [Value.oneCell']) (by simp)) (by omega) (fun A148 c149 E150 ho151 hn152 => ?_)
                  have ho153 : OS A148 (g.its.length + 1) c149 136 3 ((g.its ++ [(IR.mk ((g.i : Nat) : Int) ((g.gs ++ [k3]).getD ((g.i : Nat) : Int).toNat 0) cB cs.length cc cs)]).flatMap encIt) E150 := os_snoc ho151 rfl
                  clear ho151
                  refine o_nil ?_
                  refine d_val (i := 16) rfl (by kernel_rfl) (by kernel_rfl) (by kernel_rfl) rfl rfl rfl (y_field0 Try.runUnderlying47 rfl Try.sizeOf45 rfl rfl) ?_
                  refine d_eff (k := 17) (n := 5) (m := 6) rfl (by kernel_rfl) rfl ?_
                  refine o_store (v := (.slice _ _ _)) 3 rfl Try.sizeOf45 rfl rfl rfl rfl ?_
                  refine o_nil ?_
                  refine d_nil (n := 5) (m := 6) (by kernel_rfl) rfl ?_
                  refine s_norm [_, _, _, [(_, .cells [(.slice _ _ _), (.slice _ _ _), (.slice _ _ _)].toArray 47 (0, 0))], _, _, _, _, _, [(_, .cells [(.slice _ _ _), (.slice _ _ _), (.slice _ _ _)].toArray 47 (0, 0))], [(_, .cells [(.int _ _)].toArray 3 (0, 0))], [(_, .cells [(.int _ _), (.int _ _), (.slice _ _ _)].toArray 136 (0, 0))]] rfl ?_
                  refine s_forget [(2, (.pointer _)), (3, (.pointer _)), (4, (.pointer _)), (13, (.int _ _)), (14, (.int _ _))] ⟨rfl, rfl, rfl, rfl, rfl, trivial⟩ (fun _f => ?_)
                  refine s_region ?_
                  refine o_pull 6 ?_
                  refine o_pull 3 ?_
                  refine o_fuse ?_
                  refine o_pull 2 ?_
                  refine o_fuse ?_
                  refine o_val rfl rfl rfl (y_add rfl rfl (by simp only [inK]; omega)) ?_
                  refine o_val rfl rfl rfl (y_move (v := (.int _ _)) rfl) ?_
                  refine o_nil ?_
                  exact ⟨LW8.mk (g.i + 1) (g.gs ++ [k3]) A123 c124 E125 (g.its ++ [(IR.mk ((g.i : Nat) : Int) ((g.gs ++ [k3]).getD ((g.i : Nat) : Int).toNat 0) cB cs.length cc cs)]) A148 c149 E150 (cE ++ (cP ++ g.P)) cS, (by first | omega | (dsimp only; omega)), ⟨by dsimp only; omega, by simp only [List.length_append, List.length_singleton]; omega, gens_snoc hgg ⟨hk30, hk31 (by decide)⟩, by dsimp only; rw [List.length_append]; exact ho128, by dsimp only; rw [List.length_append]; exact ho153, all_snoc (fun x hx => ((hii x hx).sub inG_right).sub inG_right) ⟨rfl, hco.2.1, by dsimp only; omega, hco.mem.ms inG_left, fun y hy => ((hcx y hy).sub inG_left).sub inG_right⟩, items_snoc (items_more hip) ⟨(show lastI g.its g.its.length < ((g.i : Nat) : Int) from lastI_lt hie (by omega)), by simp only [List.length_append, List.length_singleton]; omega, rfl, by dsimp only; rw [getD_snoc (by omega), if_pos (by omega)]; omega, hch⟩, all_snoc (fun x hx => by have := hie x hx; dsimp only; omega) (by dsimp only; omega), by simp only [List.length_append, List.length_singleton]; omega, by simp only [List.length_append, List.length_singleton]; omega, hst1⟩, ⟨(congrArg (Value.int .i64) (by (try dsimp only); omega)), rfl, rfl, rfl, rfl, trivial⟩, (by dsimp only; rw [List.length_append, List.length_append]; exact sub_picks [1, 1, 2, 1, 0, 0, 0, 0] rfl)⟩
            · refine o_val rfl rfl rfl (y_load Try.isAgg22 rfl (cel_own 1 rfl rfl)) ?_
              refine o_nil ?_
              refine d_val (i := 6) rfl (by kernel_rfl) (by kernel_rfl) (by kernel_rfl) rfl rfl rfl (y_index1 Try.runUnderlying22 Try.sizeOf3 (ho128.some_of (by omega)) rfl rfl (by omega)) ?_
              refine d_val (i := 7) rfl (by kernel_rfl) (by kernel_rfl) (by kernel_rfl) rfl rfl rfl (y_load Try.isAgg3 rfl (cel_int (ho128.cels (j := 0) rfl) (by simp only [List.length_append, List.length_singleton]; omega))) ?_
              refine d_val (i := 8) rfl (by kernel_rfl) (by kernel_rfl) (by kernel_rfl) rfl rfl rfl (y_build (vs := [(0, .int _ _), (1, .int _ _)]) rfl (GenW_k3 _ _)) ?_
              refine d_eff2 (k := 1) (k' := 10) (n := 3) (m := 6) rfl rfl (by kernel_rfl) rfl ?_ ?_
              · refine o_val rfl rfl rfl (y_load Try.isAgg45 rfl (cel_own 1 rfl rfl)) ?_
                refine o_nil ?_
                refine d_now (i := 10) [] rfl (by kernel_rfl) (by kernel_rfl) (by kernel_rfl) rfl rfl rfl (y_load Try.isAgg23 rfl (cel_own 1 rfl rfl)) trivial ?_
                refine d_eff (k := 12) (n := 3) (m := 6) rfl (by kernel_rfl) rfl ?_
                refine o_fn 1 (d := 45) rfl Try.call92 (GenC_c hst1 MSub.ext kB kx.length kc kx ⟨rfl, hko.2.1, by omega, (hko.cels (j := 4) rfl).down, fun x hx => (hkx x hx).sub (inG_ext (j := 5) rfl)⟩ hck) rfl ?_
                rintro _ _ ⟨cB, cc, cE, cP, cS, cs, rfl, hco, hcx, hch, hc16, hst1, rfl⟩
                refine o_nil ?_
                refine d_val (i := 13) rfl (by kernel_rfl) (by kernel_rfl) (by kernel_rfl) rfl rfl rfl (y_build (vs := [(0, .agg #[.int _ _, .int _ _]), (1, .slice _ _ _)]) rfl (GenW_k4 _ _ _ _ _)) ?_
                refine d_eff (k := 14) (n := 5) (m := 6) rfl (by kernel_rfl) rfl ?_
                refine o_lit (vs := [(0, .agg #[.int _ _, .int _ _, .slice _ _ _])]) rfl rfl (GenW_k5 _ _ _ _ _) (fun b154 => ?_)
                refine o_nil ?_
                refine d_eff (k := 15) (n := 5) (m := 6) rfl (by kernel_rfl) rfl ?_
                refine o_append (sz := 3) (bytes := 40) (news := [(.int _ _), (.int _ _), (.slice _ _ _)]) 4 rfl Try.underlying45 Try.type136 rfl rfl rfl rfl rfl hio rfl rfl (Src.slice Try.underlying45 (cels_own 11 rfl rfl) rfl (by simp [Value.oneCell']) (by simp)) (by omega) (fun A155 c156 E157 ho158 hn159 => ?_)
                have ho160 : OS A155 (g.its.length + 1) c156 136 3 ((g.its ++ [(IR.mk ((g.i : Nat) : Int) ((g.gs ++ [k3]).getD ((g.i : Nat) : Int).toNat 0) cB cs.length cc cs)]).flatMap encIt) E157 := os_snoc ho158 rfl
                clear ho158
                refine o_nil ?_
                refine d_val (i := 16) rfl (by kernel_rfl) (by kernel_rfl) (by kernel_rfl) rfl rfl rfl (y_field0 Try.runUnderlying47 rfl Try.sizeOf45 rfl rfl) ?_
                refine d_eff (k := 17) (n := 5) (m := 6) rfl (by kernel_rfl) rfl ?_
                refine o_store (v := (.slice _ _ _)) 3 rfl Try.sizeOf45 rfl rfl rfl rfl ?_
                refine o_nil ?_
                refine d_nil (n := 5) (m := 6) (by kernel_rfl) rfl ?_
                refine s_norm [_, _, _, [(_, .cells [(.slice _ _ _), (.slice _ _ _), (.slice _ _ _)].toArray 47 (0, 0))], _, _, _, _, _, [(_, .cells [(.slice _ _ _), (.slice _ _ _), (.slice _ _ _)].toArray 47 (0, 0))], [(_, .cells [(.int _ _)].toArray 3 (0, 0))], [(_, .cells [(.int _ _), (.int _ _), (.slice _ _ _)].toArray 136 (0, 0))]] rfl ?_
                refine s_forget [(2, (.pointer _)), (3, (.pointer _)), (4, (.pointer _)), (13, (.int _ _)), (14, (.int _ _))] ⟨rfl, rfl, rfl, rfl, rfl, trivial⟩ (fun _f => ?_)
                refine s_region ?_
                refine o_pull 6 ?_
                refine o_pull 3 ?_
                refine o_fuse ?_
                refine o_pull 2 ?_
                refine o_fuse ?_
                refine o_val rfl rfl rfl (y_add rfl rfl (by simp only [inK]; omega)) ?_
                refine o_val rfl rfl rfl (y_move (v := (.int _ _)) rfl) ?_
                refine o_nil ?_
                exact ⟨LW8.mk (g.i + 1) (g.gs ++ [k3]) A123 c124 E125 (g.its ++ [(IR.mk ((g.i : Nat) : Int) ((g.gs ++ [k3]).getD ((g.i : Nat) : Int).toNat 0) cB cs.length cc cs)]) A155 c156 E157 (cE ++ (cP ++ g.P)) cS, (by first | omega | (dsimp only; omega)), ⟨by dsimp only; omega, by simp only [List.length_append, List.length_singleton]; omega, gens_snoc hgg ⟨hk30, hk31 (by decide)⟩, by dsimp only; rw [List.length_append]; exact ho128, by dsimp only; rw [List.length_append]; exact ho160, all_snoc (fun x hx => ((hii x hx).sub inG_right).sub inG_right) ⟨rfl, hco.2.1, by dsimp only; omega, hco.mem.ms inG_left, fun y hy => ((hcx y hy).sub inG_left).sub inG_right⟩, items_snoc (items_more hip) ⟨(show lastI g.its g.its.length < ((g.i : Nat) : Int) from lastI_lt hie (by omega)), by simp only [List.length_append, List.length_singleton]; omega, rfl, by dsimp only; rw [getD_snoc (by omega), if_pos (by omega)]; omega, hch⟩, all_snoc (fun x hx => by have := hie x hx; dsimp only; omega) (by dsimp only; omega), by simp only [List.length_append, List.length_singleton]; omega, by simp only [List.length_append, List.length_singleton]; omega, hst1⟩, ⟨(congrArg (Value.int .i64) (by (try dsimp only); omega)), rfl, rfl, rfl, rfl, trivial⟩, (by dsimp only; rw [List.length_append, List.length_append]; exact sub_picks [1, 1, 2, 1, 0, 0, 0, 0] rfl)⟩
              · refine o_val rfl rfl rfl (y_load Try.isAgg23 rfl (cel_own 1 rfl rfl)) ?_
                refine o_nil ?_
                refine d_eff2 (k := 1) (k' := 12) (n := 3) (m := 6) rfl rfl (by kernel_rfl) rfl ?_ ?_
                · refine o_val rfl rfl rfl (y_load Try.isAgg45 rfl (cel_own 1 rfl rfl)) ?_
                  refine o_nil ?_
                  refine d_eff (k := 12) (n := 3) (m := 6) rfl (by kernel_rfl) rfl ?_
                  refine o_fn 1 (d := 45) rfl Try.call92 (GenC_c hst1 MSub.ext kB kx.length kc kx ⟨rfl, hko.2.1, by omega, (hko.cels (j := 4) rfl).down, fun x hx => (hkx x hx).sub (inG_ext (j := 5) rfl)⟩ hck) rfl ?_
                  rintro _ _ ⟨cB, cc, cE, cP, cS, cs, rfl, hco, hcx, hch, hc16, hst1, rfl⟩
                  refine o_nil ?_
                  refine d_val (i := 13) rfl (by kernel_rfl) (by kernel_rfl) (by kernel_rfl) rfl rfl rfl (y_build (vs := [(0, .agg #[.int _ _, .int _ _]), (1, .slice _ _ _)]) rfl (GenW_k4 _ _ _ _ _)) ?_
                  refine d_eff (k := 14) (n := 5) (m := 6) rfl (by kernel_rfl) rfl ?_
                  refine o_lit (vs := [(0, .agg #[.int _ _, .int _ _, .slice _ _ _])]) rfl rfl (GenW_k5 _ _ _ _ _) (fun b161 => ?_)
                  refine o_nil ?_
                  refine d_eff (k := 15) (n := 5) (m := 6) rfl (by kernel_rfl) rfl ?_
                  refine o_append (sz := 3) (bytes := 40) (news := [(.int _ _), (.int _ _), (.slice _ _ _)]) 4 rfl Try.underlying45 Try.type136 rfl rfl rfl rfl rfl hio rfl rfl (Src.slice Try.underlying45 (cels_own 11 rfl rfl) rfl (by simp [Value.oneCell']) (by simp)) (by omega) (fun A162 c163 E164 ho165 hn166 => ?_)
                  have ho167 : OS A162 (g.its.length + 1) c163 136 3 ((g.its ++ [(IR.mk ((g.i : Nat) : Int) ((g.gs ++ [k3]).getD ((g.i : Nat) : Int).toNat 0) cB cs.length cc cs)]).flatMap encIt) E164 := os_snoc ho165 rfl
                  clear ho165
                  refine o_nil ?_
                  refine d_val (i := 16) rfl (by kernel_rfl) (by kernel_rfl) (by kernel_rfl) rfl rfl rfl (y_field0 Try.runUnderlying47 rfl Try.sizeOf45 rfl rfl) ?_
                  refine d_eff (k := 17) (n := 5) (m := 6) rfl (by kernel_rfl) rfl ?_
                  refine o_store (v := (.slice _ _ _)) 3 rfl Try.sizeOf45 rfl rfl rfl rfl ?_
                  refine o_nil ?_
                  refine d_nil (n := 5) (m := 6) (by kernel_rfl) rfl ?_
                  refine s_norm [_, _, _, [(_, .cells [(.slice _ _ _), (.slice _ _ _), (.slice _ _ _)].toArray 47 (0, 0))], _, _, _, _, _, [(_, .cells [(.slice _ _ _), (.slice _ _ _), (.slice _ _ _)].toArray 47 (0, 0))], [(_, .cells [(.int _ _)].toArray 3 (0, 0))], [(_, .cells [(.int _ _), (.int _ _), (.slice _ _ _)].toArray 136 (0, 0))]] rfl ?_
                  refine s_forget [(2, (.pointer _)), (3, (.pointer _)), (4, (.pointer _)), (13, (.int _ _)), (14, (.int _ _))] ⟨rfl, rfl, rfl, rfl, rfl, trivial⟩ (fun _f => ?_)
                  refine s_region ?_
                  refine o_pull 6 ?_
                  refine o_pull 3 ?_
                  refine o_fuse ?_
                  refine o_pull 2 ?_
                  refine o_fuse ?_
                  refine o_val rfl rfl rfl (y_add rfl rfl (by simp only [inK]; omega)) ?_
                  refine o_val rfl rfl rfl (y_move (v := (.int _ _)) rfl) ?_
                  refine o_nil ?_
                  exact ⟨LW8.mk (g.i + 1) (g.gs ++ [k3]) A123 c124 E125 (g.its ++ [(IR.mk ((g.i : Nat) : Int) ((g.gs ++ [k3]).getD ((g.i : Nat) : Int).toNat 0) cB cs.length cc cs)]) A162 c163 E164 (cE ++ (cP ++ g.P)) cS, (by first | omega | (dsimp only; omega)), ⟨by dsimp only; omega, by simp only [List.length_append, List.length_singleton]; omega, gens_snoc hgg ⟨hk30, hk31 (by decide)⟩, by dsimp only; rw [List.length_append]; exact ho128, by dsimp only; rw [List.length_append]; exact ho167, all_snoc (fun x hx => ((hii x hx).sub inG_right).sub inG_right) ⟨rfl, hco.2.1, by dsimp only; omega, hco.mem.ms inG_left, fun y hy => ((hcx y hy).sub inG_left).sub inG_right⟩, items_snoc (items_more hip) ⟨(show lastI g.its g.its.length < ((g.i : Nat) : Int) from lastI_lt hie (by omega)), by simp only [List.length_append, List.length_singleton]; omega, rfl, by dsimp only; rw [getD_snoc (by omega), if_pos (by omega)]; omega, hch⟩, all_snoc (fun x hx => by have := hie x hx; dsimp only; omega) (by dsimp only; omega), by simp only [List.length_append, List.length_singleton]; omega, by simp only [List.length_append, List.length_singleton]; omega, hst1⟩, ⟨(congrArg (Value.int .i64) (by (try dsimp only); omega)), rfl, rfl, rfl, rfl, trivial⟩, (by dsimp only; rw [List.length_append, List.length_append]; exact sub_picks [1, 1, 2, 1, 0, 0, 0, 0] rfl)⟩
                · refine o_fn 1 (d := 45) rfl Try.call92 (GenC_c hst1 MSub.ext kB kx.length kc kx ⟨rfl, hko.2.1, by omega, (hko.cels (j := 4) rfl).down, fun x hx => (hkx x hx).sub (inG_ext (j := 5) rfl)⟩ hck) rfl ?_
                  rintro _ _ ⟨cB, cc, cE, cP, cS, cs, rfl, hco, hcx, hch, hc16, hst1, rfl⟩
                  refine o_nil ?_
                  refine d_val (i := 13) rfl (by kernel_rfl) (by kernel_rfl) (by kernel_rfl) rfl rfl rfl (y_build (vs := [(0, .agg #[.int _ _, .int _ _]), (1, .slice _ _ _)]) rfl (GenW_k4 _ _ _ _ _)) ?_
                  refine d_eff2 (k := 1) (k' := 14) (n := 5) (m := 6) rfl rfl (by kernel_rfl) rfl ?_ ?_
                  · refine o_val rfl rfl rfl (y_load Try.isAgg45 rfl (cel_own 3 rfl rfl)) ?_
                    refine o_nil ?_
                    refine d_eff (k := 14) (n := 5) (m := 6) rfl (by kernel_rfl) rfl ?_
                    refine o_lit (vs := [(0, .agg #[.int _ _, .int _ _, .slice _ _ _])]) rfl rfl (GenW_k5 _ _ _ _ _) (fun b168 => ?_)
                    refine o_nil ?_
                    refine d_eff (k := 15) (n := 5) (m := 6) rfl (by kernel_rfl) rfl ?_
                    refine o_append (sz := 3) (bytes := 40) (news := [(.int _ _), (.int _ _), (.slice _ _ _)]) 4 rfl Try.underlying45 Try.type136 rfl rfl rfl rfl rfl hio rfl rfl (Src.slice Try.underlying45 (cels_own 11 rfl rfl) rfl (by simp [Value.oneCell']) (by simp)) (by omega) (fun A169 c170 E171 ho172 hn173 => ?_)
                    have ho174 : OS A169 (g.its.length + 1) c170 136 3 ((g.its ++ [(IR.mk ((g.i : Nat) : Int) ((g.gs ++ [k3]).getD ((g.i : Nat) : Int).toNat 0) cB cs.length cc cs)]).flatMap encIt) E171 := os_snoc ho172 rfl
                    clear ho172
                    refine o_nil ?_
                    refine d_val (i := 16) rfl (by kernel_rfl) (by kernel_rfl) (by kernel_rfl) rfl rfl rfl (y_field0 Try.runUnderlying47 rfl Try.sizeOf45 rfl rfl) ?_
                    refine d_eff (k := 17) (n := 5) (m := 6) rfl (by kernel_rfl) rfl ?_
                    refine o_store (v := (.slice _ _ _)) 3 rfl Try.sizeOf45 rfl rfl rfl rfl ?_
                    refine o_nil ?_
                    refine d_nil (n := 5) (m := 6) (by kernel_rfl) rfl ?_
                    refine s_norm [_, _, _, [(_, .cells [(.slice _ _ _), (.slice _ _ _), (.slice _ _ _)].toArray 47 (0, 0))], _, _, _, _, _, [(_, .cells [(.slice _ _ _), (.slice _ _ _), (.slice _ _ _)].toArray 47 (0, 0))], [(_, .cells [(.int _ _)].toArray 3 (0, 0))], [(_, .cells [(.int _ _), (.int _ _), (.slice _ _ _)].toArray 136 (0, 0))]] rfl ?_
                    refine s_forget [(2, (.pointer _)), (3, (.pointer _)), (4, (.pointer _)), (13, (.int _ _)), (14, (.int _ _))] ⟨rfl, rfl, rfl, rfl, rfl, trivial⟩ (fun _f => ?_)
                    refine s_region ?_
                    refine o_pull 6 ?_
                    refine o_pull 3 ?_
                    refine o_fuse ?_
                    refine o_pull 2 ?_
                    refine o_fuse ?_
                    refine o_val rfl rfl rfl (y_add rfl rfl (by simp only [inK]; omega)) ?_
                    refine o_val rfl rfl rfl (y_move (v := (.int _ _)) rfl) ?_
                    refine o_nil ?_
                    exact ⟨LW8.mk (g.i + 1) (g.gs ++ [k3]) A123 c124 E125 (g.its ++ [(IR.mk ((g.i : Nat) : Int) ((g.gs ++ [k3]).getD ((g.i : Nat) : Int).toNat 0) cB cs.length cc cs)]) A169 c170 E171 (cE ++ (cP ++ g.P)) cS, (by first | omega | (dsimp only; omega)), ⟨by dsimp only; omega, by simp only [List.length_append, List.length_singleton]; omega, gens_snoc hgg ⟨hk30, hk31 (by decide)⟩, by dsimp only; rw [List.length_append]; exact ho128, by dsimp only; rw [List.length_append]; exact ho174, all_snoc (fun x hx => ((hii x hx).sub inG_right).sub inG_right) ⟨rfl, hco.2.1, by dsimp only; omega, hco.mem.ms inG_left, fun y hy => ((hcx y hy).sub inG_left).sub inG_right⟩, items_snoc (items_more hip) ⟨(show lastI g.its g.its.length < ((g.i : Nat) : Int) from lastI_lt hie (by omega)), by simp only [List.length_append, List.length_singleton]; omega, rfl, by dsimp only; rw [getD_snoc (by omega), if_pos (by omega)]; omega, hch⟩, all_snoc (fun x hx => by have := hie x hx; dsimp only; omega) (by dsimp only; omega), by simp only [List.length_append, List.length_singleton]; omega, by simp only [List.length_append, List.length_singleton]; omega, hst1⟩, ⟨(congrArg (Value.int .i64) (by (try dsimp only); omega)), rfl, rfl, rfl, rfl, trivial⟩, (by dsimp only; rw [List.length_append, List.length_append]; exact sub_picks [1, 1, 2, 1, 0, 0, 0, 0] rfl)⟩
                  · refine o_lit (vs := [(0, .agg #[.int _ _, .int _ _, .slice _ _ _])]) rfl rfl (GenW_k5 _ _ _ _ _) (fun b175 => ?_)
                    refine o_nil ?_
                    refine d_now (i := 1) [] rfl (by kernel_rfl) (by kernel_rfl) (by kernel_rfl) rfl rfl rfl (y_load Try.isAgg45 rfl (cel_own 3 rfl rfl)) trivial ?_
                    refine d_eff (k := 15) (n := 5) (m := 6) rfl (by kernel_rfl) rfl ?_
                    refine o_append (sz := 3) (bytes := 40) (news := [(.int _ _), (.int _ _), (.slice _ _ _)]) 4 rfl Try.underlying45 Try.type136 rfl rfl rfl rfl rfl hio rfl rfl (Src.slice Try.underlying45 (cels_own 11 rfl rfl) rfl (by simp [Value.oneCell']) (by simp)) (by omega) (fun A176 c177 E178 ho179 hn180 => ?_)
                    have ho181 : OS A176 (g.its.length + 1) c177 136 3 ((g.its ++ [(IR.mk ((g.i : Nat) : Int) ((g.gs ++ [k3]).getD ((g.i : Nat) : Int).toNat 0) cB cs.length cc cs)]).flatMap encIt) E178 := os_snoc ho179 rfl
                    clear ho179
                    refine o_nil ?_
                    refine d_val (i := 16) rfl (by kernel_rfl) (by kernel_rfl) (by kernel_rfl) rfl rfl rfl (y_field0 Try.runUnderlying47 rfl Try.sizeOf45 rfl rfl) ?_
                    refine d_eff (k := 17) (n := 5) (m := 6) rfl (by kernel_rfl) rfl ?_
                    refine o_store (v := (.slice _ _ _)) 3 rfl Try.sizeOf45 rfl rfl rfl rfl ?_
                    refine o_nil ?_
                    refine d_nil (n := 5) (m := 6) (by kernel_rfl) rfl ?_
                    refine s_norm [_, _, _, [(_, .cells [(.slice _ _ _), (.slice _ _ _), (.slice _ _ _)].toArray 47 (0, 0))], _, _, _, _, _, [(_, .cells [(.slice _ _ _), (.slice _ _ _), (.slice _ _ _)].toArray 47 (0, 0))], [(_, .cells [(.int _ _)].toArray 3 (0, 0))], [(_, .cells [(.int _ _), (.int _ _), (.slice _ _ _)].toArray 136 (0, 0))]] rfl ?_
                    refine s_forget [(2, (.pointer _)), (3, (.pointer _)), (4, (.pointer _)), (13, (.int _ _)), (14, (.int _ _))] ⟨rfl, rfl, rfl, rfl, rfl, trivial⟩ (fun _f => ?_)
                    refine s_region ?_
                    refine o_pull 6 ?_
                    refine o_pull 3 ?_
                    refine o_fuse ?_
                    refine o_pull 2 ?_
                    refine o_fuse ?_
                    refine o_val rfl rfl rfl (y_add rfl rfl (by simp only [inK]; omega)) ?_
                    refine o_val rfl rfl rfl (y_move (v := (.int _ _)) rfl) ?_
                    refine o_nil ?_
                    exact ⟨LW8.mk (g.i + 1) (g.gs ++ [k3]) A123 c124 E125 (g.its ++ [(IR.mk ((g.i : Nat) : Int) ((g.gs ++ [k3]).getD ((g.i : Nat) : Int).toNat 0) cB cs.length cc cs)]) A176 c177 E178 (cE ++ (cP ++ g.P)) cS, (by first | omega | (dsimp only; omega)), ⟨by dsimp only; omega, by simp only [List.length_append, List.length_singleton]; omega, gens_snoc hgg ⟨hk30, hk31 (by decide)⟩, by dsimp only; rw [List.length_append]; exact ho128, by dsimp only; rw [List.length_append]; exact ho181, all_snoc (fun x hx => ((hii x hx).sub inG_right).sub inG_right) ⟨rfl, hco.2.1, by dsimp only; omega, hco.mem.ms inG_left, fun y hy => ((hcx y hy).sub inG_left).sub inG_right⟩, items_snoc (items_more hip) ⟨(show lastI g.its g.its.length < ((g.i : Nat) : Int) from lastI_lt hie (by omega)), by simp only [List.length_append, List.length_singleton]; omega, rfl, by dsimp only; rw [getD_snoc (by omega), if_pos (by omega)]; omega, hch⟩, all_snoc (fun x hx => by have := hie x hx; dsimp only; omega) (by dsimp only; omega), by simp only [List.length_append, List.length_singleton]; omega, by simp only [List.length_append, List.length_singleton]; omega, hst1⟩, ⟨(congrArg (Value.int .i64) (by (try dsimp only); omega)), rfl, rfl, rfl, rfl, trivial⟩, (by dsimp only; rw [List.length_append, List.length_append]; exact sub_picks [1, 1, 2, 1, 0, 0, 0, 0] rfl)⟩
            · refine o_val rfl rfl rfl (y_load Try.isAgg23 rfl (cel_own 1 rfl rfl)) ?_
              refine o_nil ?_
              refine d_eff3 (k := 1) (k' := 4) (k'' := 12) (n := 3) (m := 6) rfl rfl rfl (by kernel_rfl) rfl ?_ ?_ ?_
              · refine o_val rfl rfl rfl (y_load Try.isAgg45 rfl (cel_own 1 rfl rfl)) ?_
                refine o_nil ?_
                refine d_eff2 (k := 4) (k' := 12) (n := 3) (m := 6) rfl rfl (by kernel_rfl) rfl ?_ ?_
                · refine o_val rfl rfl rfl (y_load Try.isAgg22 rfl (cel_own 1 rfl rfl)) ?_
                  refine o_nil ?_
                  refine d_val (i := 6) rfl (by kernel_rfl) (by kernel_rfl) (by kernel_rfl) rfl rfl rfl (y_index1 Try.runUnderlying22 Try.sizeOf3 (ho128.some_of (by omega)) rfl rfl (by omega)) ?_
                  refine d_val (i := 7) rfl (by kernel_rfl) (by kernel_rfl) (by kernel_rfl) rfl rfl rfl (y_load Try.isAgg3 rfl (cel_int (ho128.cels (j := 0) rfl) (by simp only [List.length_append, List.length_singleton]; omega))) ?_
                  refine d_val (i := 8) rfl (by kernel_rfl) (by kernel_rfl) (by kernel_rfl) rfl rfl rfl (y_build (vs := [(0, .int _ _), (1, .int _ _)]) rfl (GenW_k3 _ _)) ?_
                  refine d_eff (k := 12) (n := 3) (m := 6) rfl (by kernel_rfl) rfl ?_
                  refine o_fn 1 (d := 45) rfl Try.call92 (GenC_c hst1 MSub.ext kB kx.length kc kx ⟨rfl, hko.2.1, by omega, (hko.cels (j := 4) rfl).down, fun x hx => (hkx x hx).sub (inG_ext (j := 5) rfl)⟩ hck) rfl ?_
                  rintro _ _ ⟨cB, cc, cE, cP, cS, cs, rfl, hco, hcx, hch, hc16, hst1, rfl⟩
                  refine o_nil ?_
                  refine d_val (i := 13) rfl (by kernel_rfl) (by kernel_rfl) (by kernel_rfl) rfl rfl rfl (y_build (vs := [(0, .agg #[.int _ _, .int _ _]), (1, .slice _ _ _)]) rfl (GenW_k4 _ _ _ _ _)) ?_
                  refine d_eff (k := 14) (n := 5) (m := 6) rfl (by kernel_rfl) rfl ?_
                  refine o_lit (vs := [(0, .agg #[.int _ _, .int _ _, .slice _ _ _])]) rfl rfl (GenW_k5 _ _ _ _ _) (fun b182 => ?_)
                  refine o_nil ?_
                  refine d_eff (k := 15) (n := 5) (m := 6) rfl (by kernel_rfl) rfl ?_
                  refine o_append (sz := 3) (bytes := 40) (news := [(.int _ _), (.int _ _), (.slice _ _ _)]) 4 rfl Try.underlying45 Try.type136 rfl rfl rfl rfl rfl hio rfl rfl (Src.slice Try.underlying45 (cels_own 11 rfl rfl) rfl (by simp [Value.oneCell']) (by simp)) (by omega) (fun A183 c184 E185 ho186 hn187 => ?_)
                  have ho188 : OS A183 (g.its.length + 1) c184 136 3 ((g.its ++ [(IR.mk ((g.i : Nat) : Int) ((g.gs ++ [k3]).getD ((g.i : Nat) : Int).toNat 0) cB cs.length cc cs)]).flatMap encIt) E185 := os_snoc ho186 rfl
                  clear ho186
                  refine o_nil ?_
                  refine d_val (i := 16) rfl (by kernel_rfl) (by kernel_rfl) (by kernel_rfl) rfl rfl rfl (y_field0 Try.runUnderlying47 rfl Try.sizeOf45 rfl rfl) ?_
                  refine d_eff (k := 17) (n := 5) (m := 6) rfl (by kernel_rfl) rfl ?_
                  refine o_store (v := (.slice _ _ _)) 3 rfl Try.sizeOf45 rfl rfl rfl rfl ?_
                  refine o_nil ?_
                  refine d_nil (n := 5) (m := 6) (by kernel_rfl) rfl ?_
                  refine s_norm [_, _, _, [(_, .cells [(.slice _ _ _), (.slice _ _ _), (.slice _ _ _)].toArray 47 (0, 0))], _, _, _, _, _, [(_, .cells [(.slice _ _ _), (.slice _ _ _), (.slice _ _ _)].toArray 47 (0, 0))], [(_, .cells [(.int _ _)].toArray 3 (0, 0))], [(_, .cells [(.int _ _), (.int _ _), (.slice _ _ _)].toArray 136 (0, 0))]] rfl ?_
                  refine s_forget [(2, (.pointer _)), (3, (.pointer _)), (4, (.pointer _)), (13, (.int _ _)), (14, (.int _ _))] ⟨rfl, rfl, rfl, rfl, rfl, trivial⟩ (fun _f => ?_)
                  refine s_region ?_
                  refine o_pull 6 ?_
                  refine o_pull 3 ?_
                  refine o_fuse ?_
                  refine o_pull 2 ?_
                  refine o_fuse ?_
                  refine o_val rfl rfl rfl (y_add rfl rfl (by simp only [inK]; omega)) ?_
                  refine o_val rfl rfl rfl (y_move (v := (.int _ _)) rfl) ?_
                  refine o_nil ?_
                  exact ⟨LW8.mk (g.i + 1) (g.gs ++ [k3]) A123 c124 E125 (g.its ++ [(IR.mk ((g.i : Nat) : Int) ((g.gs ++ [k3]).getD ((g.i : Nat) : Int).toNat 0) cB cs.length cc cs)]) A183 c184 E185 (cE ++ (cP ++ g.P)) cS, (by first | omega | (dsimp only; omega)), ⟨by dsimp only; omega, by simp only [List.length_append, List.length_singleton]; omega, gens_snoc hgg ⟨hk30, hk31 (by decide)⟩, by dsimp only; rw [List.length_append]; exact ho128, by dsimp only; rw [List.length_append]; exact ho188, all_snoc (fun x hx => ((hii x hx).sub inG_right).sub inG_right) ⟨rfl, hco.2.1, by dsimp only; omega, hco.mem.ms inG_left, fun y hy => ((hcx y hy).sub inG_left).sub inG_right⟩, items_snoc (items_more hip) ⟨(show lastI g.its g.its.length < ((g.i : Nat) : Int) from lastI_lt hie (by omega)), by simp only [List.length_append, List.length_singleton]; omega, rfl, by dsimp only; rw [getD_snoc (by omega), if_pos (by omega)]; omega, hch⟩, all_snoc (fun x hx => by have := hie x hx; dsimp only; omega) (by dsimp only; omega), by simp only [List.length_append, List.length_singleton]; omega, by simp only [List.length_append, List.length_singleton]; omega, hst1⟩, ⟨(congrArg (Value.int .i64) (by (try dsimp only); omega)), rfl, rfl, rfl, rfl, trivial⟩, (by dsimp only; rw [List.length_append, List.length_append]; exact sub_picks [1, 1, 2, 1, 0, 0, 0, 0] rfl)⟩
                · refine o_fn 1 (d := 45) rfl Try.call92 (GenC_c hst1 MSub.ext kB kx.length kc kx ⟨rfl, hko.2.1, by omega, (hko.cels (j := 4) rfl).down, fun x hx => (hkx x hx).sub (inG_ext (j := 5) rfl)⟩ hck) rfl ?_
                  rintro _ _ ⟨cB, cc, cE, cP, cS, cs, rfl, hco, hcx, hch, hc16, hst1, rfl⟩
                  refine o_nil ?_
                  refine d_now (i := 4) [] rfl (by kernel_rfl) (by kernel_rfl) (by kernel_rfl) rfl rfl rfl (y_load Try.isAgg22 rfl (cel_own 3 rfl rfl)) trivial ?_
                  refine d_val (i := 6) rfl (by kernel_rfl) (by kernel_rfl) (by kernel_rfl) rfl rfl rfl (y_index1 Try.runUnderlying22 Try.sizeOf3 (ho128.some_of (by omega)) rfl rfl (by omega)) ?_
                  refine d_val (i := 7) rfl (by kernel_rfl) (by kernel_rfl) (by kernel_rfl) rfl rfl rfl (y_load Try.isAgg3 rfl (cel_int (ho128.cels (j := 0) rfl) (by simp only [List.length_append, List.length_singleton]; omega))) ?_
                  refine d_val (i := 8) rfl (by kernel_rfl) (by kernel_rfl) (by kernel_rfl) rfl rfl rfl (y_build (vs := [(0, .int _ _), (1, .int _ _)]) rfl (GenW_k3 _ _)) ?_
                  refine d_val (i := 13) rfl (by kernel_rfl) (by kernel_rfl) (by kernel_rfl) rfl rfl rfl (y_build (vs := [(0, .agg #[.int _ _, .int _ _]), (1, .slice _ _ _)]) rfl (GenW_k4 _ _ _ _ _)) ?_
                  refine d_eff (k := 14) (n := 5) (m := 6) rfl (by kernel_rfl) rfl ?_
                  refine o_lit (vs := [(0, .agg #[.int _ _, .int _ _, .slice _ _ _])]) rfl rfl (GenW_k5 _ _ _ _ _) (fun b189 => ?_)
                  refine o_nil ?_
                  refine d_eff (k := 15) (n := 5) (m := 6) rfl (by kernel_rfl) rfl ?_
                  refine o_append (sz := 3) (bytes := 40) (news := [(.int _ _), (.int _ _), (.slice _ _ _)]) 4 rfl Try.underlying45 Try.type136 rfl rfl rfl rfl rfl hio rfl rfl (Src.slice Try.underlying45 (cels_own 11 rfl rfl) rfl (by simp [Value.oneCell']) (by simp)) (by omega) (fun A190 c191 E192 ho193 hn194 => ?_)
                  have ho195 : OS A190 (g.its.length + 1) c191 136 3 ((g.its ++ [(IR.mk ((g.i : Nat) : Int) ((g.gs ++ [k3]).getD ((g.i : Nat) : Int).toNat 0) cB cs.length cc cs)]).flatMap encIt) E192 := os_snoc ho193 rfl
                  clear ho193
                  refine o_nil ?_
                  refine d_val (i := 16) rfl (by kernel_rfl) (by kernel_rfl) (by kernel_rfl) rfl rfl rfl (y_field0 Try.runUnderlying47 rfl Try.sizeOf45 rfl rfl) ?_
                  refine d_eff (k := 17) (n := 5) (m := 6) rfl (by kernel_rfl) rfl ?_
                  refine o_store (v := (.slice _ _ _)) 3 rfl Try.sizeOf45 rfl rfl rfl rfl ?_
                  refine o_nil ?_
                  refine d_nil (n := 5) (m := 6) (by kernel_rfl) rfl ?_
                  refine s_norm [_, _, _, [(_, .cells [(.slice _ _ _), (.slice _ _ _), (.slice _ _ _)].toArray 47 (0, 0))], _, _, _, _, _, [(_, .cells [(.slice _ _ _), (.slice _ _ _), (.slice _ _ _)].toArray 47 (0, 0))], [(_, .cells [(.int _ _)].toArray 3 (0, 0))], [(_, .cells [(.int _ _), (.int _ _), (.slice _ _ _)].toArray 136 (0, 0))]] rfl ?_
                  refine s_forget [(2, (.pointer _)), (3, (.pointer _)), (4, (.pointer _)), (13, (.int _ _)), (14, (.int _ _))] ⟨rfl, rfl, rfl, rfl, rfl, trivial⟩ (fun _f => ?_)
                  refine s_region ?_
                  refine o_pull 6 ?_
                  refine o_pull 3 ?_
                  refine o_fuse ?_
                  refine o_pull 2 ?_
                  refine o_fuse ?_
                  refine o_val rfl rfl rfl (y_add rfl rfl (by simp only [inK]; omega)) ?_
                  refine o_val rfl rfl rfl (y_move (v := (.int _ _)) rfl) ?_
                  refine o_nil ?_
                  exact ⟨LW8.mk (g.i + 1) (g.gs ++ [k3]) A123 c124 E125 (g.its ++ [(IR.mk ((g.i : Nat) : Int) ((g.gs ++ [k3]).getD ((g.i : Nat) : Int).toNat 0) cB cs.length cc cs)]) A190 c191 E192 (cE ++ (cP ++ g.P)) cS, (by first | omega | (dsimp only; omega)), ⟨by dsimp only; omega, by simp only [List.length_append, List.length_singleton]; omega, gens_snoc hgg ⟨hk30, hk31 (by decide)⟩, by dsimp only; rw [List.length_append]; exact ho128, by dsimp only; rw [List.length_append]; exact ho195, all_snoc (fun x hx => ((hii x hx).sub inG_right).sub inG_right) ⟨rfl, hco.2.1, by dsimp only; omega, hco.mem.ms inG_left, fun y hy => ((hcx y hy).sub inG_left).sub inG_right⟩, items_snoc (items_more hip) ⟨(show lastI g.its g.its.length < ((g.i : Nat) : Int) from lastI_lt hie (by omega)), by simp only [List.length_append, List.length_singleton]; omega, rfl, by dsimp only; rw [getD_snoc (by omega), if_pos (by omega)]; omega, hch⟩, all_snoc (fun x hx => by have := hie x hx; dsimp only; omega) (by dsimp only; omega), by simp only [List.length_append, List.length_singleton]; omega, by simp only [List.length_append, List.length_singleton]; omega, hst1⟩, ⟨(congrArg (Value.int .i64) (by (try dsimp only); omega)), rfl, rfl, rfl, rfl, trivial⟩, (by dsimp only; rw [List.length_append, List.length_append]; exact sub_picks [1, 1, 2, 1, 0, 0, 0, 0] rfl)⟩
              · refine o_val rfl rfl rfl (y_load Try.isAgg22 rfl (cel_own 1 rfl rfl)) ?_
                refine o_nil ?_
                refine d_val (i := 6) rfl (by kernel_rfl) (by kernel_rfl) (by kernel_rfl) rfl rfl rfl (y_index1 Try.runUnderlying22 Try.sizeOf3 (ho128.some_of (by omega)) rfl rfl (by omega)) ?_
                refine d_val (i := 7) rfl (by kernel_rfl) (by kernel_rfl) (by kernel_rfl) rfl rfl rfl (y_load Try.isAgg3 rfl (cel_int (ho128.cels (j := 0) rfl) (by simp only [List.length_append, List.length_singleton]; omega))) ?_
                refine d_val (i := 8) rfl (by kernel_rfl) (by kernel_rfl) (by kernel_rfl) rfl rfl rfl (y_build (vs := [(0, .int _ _), (1, .int _ _)]) rfl (GenW_k3 _ _)) ?_
                refine d_eff2 (k := 1) (k' := 12) (n := 3) (m := 6) rfl rfl (by kernel_rfl) rfl ?_ ?_
                · refine o_val rfl rfl rfl (y_load Try.isAgg45 rfl (cel_own 1 rfl rfl)) ?_
                  refine o_nil ?_
                  refine d_eff (k := 12) (n := 3) (m := 6) rfl (by kernel_rfl) rfl ?_
                  refine o_fn 1 (d := 45) rfl Try.call92 (GenC_c hst1 MSub.ext kB kx.length kc kx ⟨rfl, hko.2.1, by omega, (hko.cels (j := 4) rfl).down, fun x hx => (hkx x hx).sub (inG_ext (j := 5) rfl)⟩ hck) rfl ?_
                  rintro _ _ ⟨cB, cc, cE, cP, cS, cs, rfl, hco, hcx, hch, hc16, hst1, rfl⟩
                  refine o_nil ?_
                  refine d_val (i := 13) rfl (by kernel_rfl) (by kernel_rfl) (by kernel_rfl) rfl rfl rfl (y_build (vs := [(0, .agg #[.int _ _, .int _ _]), (1, .slice _ _ _)]) rfl (GenW_k4 _ _ _ _ _)) ?_
                  refine d_eff (k := 14) (n := 5) (m := 6) rfl (by kernel_rfl) rfl ?_
                  refine o_lit (vs := [(0, .agg #[.int _ _, .int _ _, .slice _ _ _])]) rfl rfl (GenW_k5 _ _ _ _ _) (fun b196 => ?_)
                  refine o_nil ?_
                  refine d_eff (k := 15) (n := 5) (m := 6) rfl (by kernel_rfl) rfl ?_
                  refine o_append (sz := 3) (bytes := 40) (news := [(.int _ _), (.int _ _), (.slice _ _ _)]) 4 rfl Try.underlying45 Try.type136 rfl rfl rfl rfl rfl hio rfl rfl (Src.slice Try.underlying45 (cels_own 11 rfl rfl) rfl (by simp [Value.oneCell']) (by simp)) (by omega) (fun A197 c198 E199 ho200 hn201 => ?_)
                  have ho202 : OS A197 (g.its.length + 1) c198 136 3 ((g.its ++ [(IR.mk ((g.i : Nat) : Int) ((g.gs ++ [k3]).getD ((g.i : Nat) : Int).toNat 0) cB cs.length cc cs)]).flatMap encIt) E199 := os_snoc ho200 rfl
                  clear ho200
                  refine o_nil ?_
                  refine d_val (i := 16) rfl (by kernel_rfl) (by kernel_rfl) (by kernel_rfl) rfl rfl rfl (y_field0 Try.runUnderlying47 rfl Try.sizeOf45 rfl rfl) ?_
                  refine d_eff (k := 17) (n := 5) (m := 6) rfl (by kernel_rfl) rfl ?_
                  refine o_store (v := (.slice _ _ _)) 3 rfl Try.sizeOf45 rfl rfl rfl rfl ?_
                  refine o_nil ?_
                  refine d_nil (n := 5) (m := 6) (by kernel_rfl) rfl ?_
                  refine s_norm [_, _, _, [(_, .cells [(.slice _ _ _), (.slice _ _ _), (.slice _ _ _)].toArray 47 (0, 0))], _, _, _, _, _, [(_, .cells [(.slice _ _ _), (.slice _ _ _), (.slice _ _ _)].toArray 47 (0, 0))], [(_, .cells [(.int _ _)].toArray 3 (0, 0))], [(_, .cells [(.int _ _), (.int _ _), (.slice _ _ _)].toArray 136 (0, 0))]] rfl ?_
                  refine s_forget [(2, (.pointer _)), (3, (.pointer _)), (4, (.pointer _)), (13, (.int _ _)), (14, (.int _ _))] ⟨rfl, rfl, rfl, rfl, rfl, trivial⟩ (fun _f => ?_)
                  refine s_region ?_
                  refine o_pull 6 ?_
                  refine o_pull 3 ?_
                  refine o_fuse ?_
                  refine o_pull 2 ?_
                  refine o_fuse ?_
                  refine o_val rfl rfl rfl (y_add rfl rfl (by simp only [inK]; omega)) ?_
                  refine o_val rfl rfl rfl (y_move (v := (.int _ _)) rfl) ?_
                  refine o_nil ?_
                  exact ⟨LW8.mk (g.i + 1) (g.gs ++ [k3]) A123 c124 E125 (g.its ++ [(IR.mk ((g.i : Nat) : Int) ((g.gs ++ [k3]).getD ((g.i : Nat) : Int).toNat 0) cB cs.length cc cs)]) A197 c198 E199 (cE ++ (cP ++ g.P)) cS, (by first | omega | (dsimp only; omega)), ⟨by dsimp only; omega, by simp only [List.length_append, List.length_singleton]; omega, gens_snoc hgg ⟨hk30, hk31 (by decide)⟩, by dsimp only; rw [List.length_append]; exact ho128, by dsimp only; rw [List.length_append]; exact ho202, all_snoc (fun x hx => ((hii x hx).sub inG_right).sub inG_right) ⟨rfl, hco.2.1, by dsimp only; omega, hco.mem.ms inG_left, fun y hy => ((hcx y hy).sub inG_left).sub inG_right⟩, items_snoc (items_more hip) ⟨(show lastI g.its g.its.length < ((g.i : Nat) : Int) from lastI_lt hie (by omega)), by simp only [List.length_append, List.length_singleton]; omega, rfl, by dsimp only; rw [getD_snoc (by omega), if_pos (by omega)]; omega, hch⟩, all_snoc (fun x hx => by have := hie x hx; dsimp only; omega) (by dsimp only; omega), by simp only [List.length_append, List.length_singleton]; omega, by simp only [List.length_append, List.length_singleton]; omega, hst1⟩, ⟨(congrArg (Value.int .i64) (by (try dsimp only); omega)), rfl, rfl, rfl, rfl, trivial⟩, (by dsimp only; rw [List.length_append, List.length_append]; exact sub_picks [1, 1, 2, 1, 0, 0, 0, 0] rfl)⟩
                · refine o_fn 1 (d := 45) rfl Try.call92 (GenC_c hst1 MSub.ext kB kx.length kc kx ⟨rfl, hko.2.1, by omega, (hko.cels (j := 4) rfl).down, fun x hx => (hkx x hx).sub (inG_ext (j := 5) rfl)⟩ hck) rfl ?_
                  rintro _ _ ⟨cB, cc, cE, cP, cS, cs, rfl, hco, hcx, hch, hc16, hst1, rfl⟩
                  refine o_nil ?_
                  refine d_val (i := 13) rfl (by kernel_rfl) (by kernel_rfl) (by kernel_rfl) rfl rfl rfl (y_build (vs := [(0, .agg #[.int _ _, .int _ _]), (1, .slice _ _ _)]) rfl (GenW_k4 _ _ _ _ _)) ?_
                  refine d_eff2 (k := 1) (k' := 14) (n := 5) (m := 6) rfl rfl (by kernel_rfl) rfl ?_ ?_
                  · refine o_val rfl rfl rfl (y_load Try.isAgg45 rfl (cel_own 3 rfl rfl)) ?_
                    refine o_nil ?_
                    refine d_eff (k := 14) (n := 5) (m := 6) rfl (by kernel_rfl) rfl ?_
                    refine o_lit (vs := [(0, .agg #[.int _ _, .int _ _, .slice _ _ _])]) rfl rfl (GenW_k5 _ _ _ _ _) (fun b203 => ?_)
                    refine o_nil ?_
                    refine d_eff (k := 15) (n := 5) (m := 6) rfl (by kernel_rfl) rfl ?_
                    refine o_append (sz := 3) (bytes := 40) (news := [(.int _ _), (.int _ _), (.slice _ _ _)]) 4 rfl Try.underlying45 Try.type136 rfl rfl rfl rfl rfl hio rfl rfl (Src.slice Try.underlying45 (cels_own 11 rfl rfl) rfl (by simp [Value.oneCell']) (by simp)) (by omega) (fun A204 c205 E206 ho207 hn208 => ?_)
                    have ho209 : OS A204 (g.its.length + 1) c205 136 3 ((g.its ++ [(IR.mk ((g.i : Nat) : Int) ((g.gs ++ [k3]).getD ((g.i : Nat) : Int).toNat 0) cB cs.length cc cs)]).flatMap encIt) E206 := os_snoc ho207 rfl
                    clear ho207
                    refine o_nil ?_
                    refine d_val (i := 16) rfl (by kernel_rfl) (by kernel_rfl) (by kernel_rfl) rfl rfl rfl (y_field0 Try.runUnderlying47 rfl Try.sizeOf45 rfl rfl) ?_
                    refine d_eff (k := 17) (n := 5) (m := 6) rfl (by kernel_rfl) rfl ?_
                    refine o_store (v := (.slice _ _ _)) 3 rfl Try.sizeOf45 rfl rfl rfl rfl ?_
                    refine o_nil ?_
                    refine d_nil (n := 5) (m := 6) (by kernel_rfl) rfl ?_
                    refine s_norm [_, _, _, [(_, .cells [(.slice _ _ _), (.slice _ _ _), (.slice _ _ _)].toArray 47 (0, 0))], _, _, _, _, _, [(_, .cells [(.slice _ _ _), (.slice _ _ _), (.slice _ _ _)].toArray 47 (0, 0))], [(_, .cells [(.int _ _)].toArray 3 (0, 0))], [(_, .cells [(.int _ _), (.int _ _), (.slice _ _ _)].toArray 136 (0, 0))]] rfl ?_
                    refine s_forget [(2, (.pointer _)), (3, (.pointer _)), (4, (.pointer _)), (13, (.int _ _)), (14, (.int _ _))] ⟨rfl, rfl, rfl, rfl, rfl, trivial⟩ (fun _f => ?_)
                    refine s_region ?_
                    refine o_pull 6 ?_
                    refine o_pull 3 ?_
                    refine o_fuse ?_
                    refine o_pull 2 ?_
                    refine o_fuse ?_
                    refine o_val rfl rfl rfl (y_add rfl rfl (by simp only [inK]; omega)) ?_
                    refine o_val rfl rfl rfl (y_move (v := (.int _ _)) rfl) ?_
                    refine o_nil ?_
                    exact ⟨LW8.mk (g.i + 1) (g.gs ++ [k3]) A123 c124 E125 (g.its ++ [(IR.mk ((g.i : Nat) : Int) ((g.gs ++ [k3]).getD ((g.i : Nat) : Int).toNat 0) cB cs.length cc cs)]) A204 c205 E206 (cE ++ (cP ++ g.P)) cS, (by first | omega | (dsimp only; omega)), ⟨by dsimp only; omega, by simp only [List.length_append, List.length_singleton]; omega, gens_snoc hgg ⟨hk30, hk31 (by decide)⟩, by dsimp only; rw [List.length_append]; exact ho128, by dsimp only; rw [List.length_append]; exact ho209, all_snoc (fun x hx => ((hii x hx).sub inG_right).sub inG_right) ⟨rfl, hco.2.1, by dsimp only; omega, hco.mem.ms inG_left, fun y hy => ((hcx y hy).sub inG_left).sub inG_right⟩, items_snoc (items_more hip) ⟨(show lastI g.its g.its.length < ((g.i : Nat) : Int) from lastI_lt hie (by omega)), by simp only [List.length_append, List.length_singleton]; omega, rfl, by dsimp only; rw [getD_snoc (by omega), if_pos (by omega)]; omega, hch⟩, all_snoc (fun x hx => by have := hie x hx; dsimp only; omega) (by dsimp only; omega), by simp only [List.length_append, List.length_singleton]; omega, by simp only [List.length_append, List.length_singleton]; omega, hst1⟩, ⟨(congrArg (Value.int .i64) (by (try dsimp only); omega)), rfl, rfl, rfl, rfl, trivial⟩, (by dsimp only; rw [List.length_append, List.length_append]; exact sub_picks [1, 1, 2, 1, 0, 0, 0, 0] rfl)⟩
                  · refine o_lit (vs := [(0, .agg #[.int _ _, .int _ _, .slice _ _ _])]) rfl rfl (GenW_k5 _ _ _ _ _) (fun b210 => ?_)
                    refine o_nil ?_
                    refine d_now (i := 1) [] rfl (by kernel_rfl) (by kernel_rfl) (by kernel_rfl) rfl rfl rfl (y_load Try.isAgg45 rfl (cel_own 3 rfl rfl)) trivial ?_
                    refine d_eff (k := 15) (n := 5) (m := 6) rfl (by kernel_rfl) rfl ?_
                    refine o_append (sz := 3) (bytes := 40) (news := [(.int _ _), (.int _ _), (.slice _ _ _)]) 4 rfl Try.underlying45 Try.type136 rfl rfl rfl rfl rfl hio rfl rfl (Src.slice Try.underlying45 (cels_own 11 rfl rfl) rfl (by simp [Value.oneCell']) (by simp)) (by omega) (fun A211 c212 E213 ho214 hn215 => ?_)
                    have ho216 : OS A211 (g.its.length + 1) c212 136 3 ((g.its ++ [(IR.mk ((g.i : Nat) : Int) ((g.gs ++ [k3]).getD ((g.i : Nat) : Int).toNat 0) cB cs.length cc cs)]).flatMap encIt) E213 := os_snoc ho214 rfl
                    clear ho214
                    refine o_nil ?_
                    refine d_val (i := 16) rfl (by kernel_rfl) (by kernel_rfl) (by kernel_rfl) rfl rfl rfl (y_field0 Try.runUnderlying47 rfl Try.sizeOf45 rfl rfl) ?_
                    refine d_eff (k := 17) (n := 5) (m := 6) rfl (by kernel_rfl) rfl ?_
                    refine o_store (v := (.slice _ _ _)) 3 rfl Try.sizeOf45 rfl rfl rfl rfl ?_
                    refine o_nil ?_
                    refine d_nil (n := 5) (m := 6) (by kernel_rfl) rfl ?_
                    refine s_norm [_, _, _, [(_, .cells [(.slice _ _ _), (.slice _ _ _), (.slice _ _ _)].toArray 47 (0, 0))], _, _, _, _, _, [(_, .cells [(.slice _ _ _), (.slice _ _ _), (.slice _ _ _)].toArray 47 (0, 0))], [(_, .cells [(.int _ _)].toArray 3 (0, 0))], [(_, .cells [(.int _ _), (.int _ _), (.slice _ _ _)].toArray 136 (0, 0))]] rfl ?_
                    refine s_forget [(2, (.pointer _)), (3, (.pointer _)), (4, (.pointer _)), (13, (.int _ _)), (14, (.int _ _))] ⟨rfl, rfl, rfl, rfl, rfl, trivial⟩ (fun _f => ?_)
                    refine s_region ?_
                    refine o_pull 6 ?_
                    refine o_pull 3 ?_
                    refine o_fuse ?_
                    refine o_pull 2 ?_
                    refine o_fuse ?_
                    refine o_val rfl rfl rfl (y_add rfl rfl (by simp only [inK]; omega)) ?_
                    refine o_val rfl rfl rfl (y_move (v := (.int _ _)) rfl) ?_
                    refine o_nil ?_
                    exact ⟨LW8.mk (g.i + 1) (g.gs ++ [k3]) A123 c124 E125 (g.its ++ [(IR.mk ((g.i : Nat) : Int) ((g.gs ++ [k3]).getD ((g.i : Nat) : Int).toNat 0) cB cs.length cc cs)]) A211 c212 E213 (cE ++ (cP ++ g.P)) cS, (by first | omega | (dsimp only; omega)), ⟨by dsimp only; omega, by simp only [List.length_append, List.length_singleton]; omega, gens_snoc hgg ⟨hk30, hk31 (by decide)⟩, by dsimp only; rw [List.length_append]; exact ho128, by dsimp only; rw [List.length_append]; exact ho216, all_snoc (fun x hx => ((hii x hx).sub inG_right).sub inG_right) ⟨rfl, hco.2.1, by dsimp only; omega, hco.mem.ms inG_left, fun y hy => ((hcx y hy).sub inG_left).sub inG_right⟩, items_snoc (items_more hip) ⟨(show lastI g.its g.its.length < ((g.i : Nat) : Int) from lastI_lt hie (by omega)), by simp only [List.length_append, List.length_singleton]; omega, rfl, by dsimp only; rw [getD_snoc (by omega), if_pos (by omega)]; omega, hch⟩, all_snoc (fun x hx => by have := hie x hx; dsimp only; omega) (by dsimp only; omega), by simp only [List.length_append, List.length_singleton]; omega, by simp only [List.length_append, List.length_singleton]; omega, hst1⟩, ⟨(congrArg (Value.int .i64) (by (try dsimp only); omega)), rfl, rfl, rfl, rfl, trivial⟩, (by dsimp only; rw [List.length_append, List.length_append]; exact sub_picks [1, 1, 2, 1, 0, 0, 0, 0] rfl)⟩
              · refine o_fn 1 (d := 45) rfl Try.call92 (GenC_c hst1 MSub.ext kB kx.length kc kx ⟨rfl, hko.2.1, by omega, (hko.cels (j := 4) rfl).down, fun x hx => (hkx x hx).sub (inG_ext (j := 5) rfl)⟩ hck) rfl ?_
                rintro _ _ ⟨cB, cc, cE, cP, cS, cs, rfl, hco, hcx, hch, hc16, hst1, rfl⟩
                refine o_nil ?_
                refine d_eff2 (k := 1) (k' := 4) (n := 5) (m := 6) rfl rfl (by kernel_rfl) rfl ?_ ?_
                · refine o_val rfl rfl rfl (y_load Try.isAgg45 rfl (cel_own 3 rfl rfl)) ?_
                  refine o_nil ?_
                  refine d_now (i := 4) [] rfl (by kernel_rfl) (by kernel_rfl) (by kernel_rfl) rfl rfl rfl (y_load Try.isAgg22 rfl (cel_own 3 rfl rfl)) trivial ?_
                  refine d_val (i := 6) rfl (by kernel_rfl) (by kernel_rfl) (by kernel_rfl) rfl rfl rfl (y_index1 Try.runUnderlying22 Try.sizeOf3 (ho128.some_of (by omega)) rfl rfl (by omega)) ?_
                  refine d_val (i := 7) rfl (by kernel_rfl) (by kernel_rfl) (by kernel_rfl) rfl rfl rfl (y_load Try.isAgg3 rfl (cel_int (ho128.cels (j := 0) rfl) (by simp only [List.length_append, List.length_singleton]; omega))) ?_
                  refine d_val (i := 8) rfl (by kernel_rfl) (by kernel_rfl) (by kernel_rfl) rfl rfl rfl (y_build (vs := [(0, .int _ _), (1, .int _ _)]) rfl (GenW_k3 _ _)) ?_
                  refine d_val (i := 13) rfl (by kernel_rfl) (by kernel_rfl) (by kernel_rfl) rfl rfl rfl (y_build (vs := [(0, .agg #[.int _ _, .int _ _]), (1, .slice _ _ _)]) rfl (GenW_k4 _ _ _ _ _)) ?_
                  refine d_eff (k := 14) (n := 5) (m := 6) rfl (by kernel_rfl) rfl ?_
                  refine o_lit (vs := [(0, .agg #[.int _ _, .int _ _, .slice _ _ _])]) rfl rfl (GenW_k5 _ _ _ _ _) (fun b217 => ?_)
                  refine o_nil ?_
                  refine d_eff (k := 15) (n := 5) (m := 6) rfl (by kernel_rfl) rfl ?_
                  refine o_append (sz := 3) (bytes := 40) (news := [(.int _ _), (.int _ _), (.slice _ _ _)]) 4 rfl Try.underlying45 Try.type136 rfl rfl rfl rfl rfl hio rfl rfl (Src.slice Try.underlying45 (cels_own 11 rfl rfl) rfl (by simp [Value.oneCell']) (by simp)) (by omega) (fun A218 c219 E220 ho221 hn222 => ?_)
                  have ho223 : OS A218 (g.its.length + 1) c219 136 3 ((g.its ++ [(IR.mk ((g.i : Nat) : Int) ((g.gs ++ [k3]).getD ((g.i : Nat) : Int).toNat 0) cB cs.length cc cs)]).flatMap encIt) E220 := os_snoc ho221 rfl
                  clear ho221
                  refine o_nil ?_
                  refine d_val (i := 16) rfl (by kernel_rfl) (by kernel_rfl) (by kernel_rfl) rfl rfl rfl (y_field0 Try.runUnderlying47 rfl Try.sizeOf45 rfl rfl) ?_
                  refine d_eff (k := 17) (n := 5) (m := 6) rfl (by kernel_rfl) rfl ?_
                  refine o_store (v := (.slice _ _ _)) 3 rfl Try.sizeOf45 rfl rfl rfl rfl ?_
                  refine o_nil ?_
                  refine d_nil (n := 5) (m := 6) (by kernel_rfl) rfl ?_
                  refine s_norm [_, _, _, [(_, .cells [(.slice _ _ _), (.slice _ _ _), (.slice _ _ _)].toArray 47 (0, 0))], _, _, _, _, _, [(_, .cells [(.slice _ _ _), (.slice _ _ _), (.slice _ _ _)].toArray 47 (0, 0))], [(_, .cells [(.int _ _)].toArray 3 (0, 0))], [(_, .cells [(.int _ _), (.int _ _), (.slice _ _ _)].toArray 136 (0, 0))]] rfl ?_
                  refine s_forget [(2, (.pointer _)), (3, (.pointer _)), (4, (.pointer _)), (13, (.int _ _)), (14, (.int _ _))] ⟨rfl, rfl, rfl, rfl, rfl, trivial⟩ (fun _f => ?_)
                  refine s_region ?_
                  refine o_pull 6 ?_
                  refine o_pull 3 ?_
                  refine o_fuse ?_
                  refine o_pull 2 ?_
                  refine o_fuse ?_
                  refine o_val rfl rfl rfl (y_add rfl rfl (by simp only [inK]; omega)) ?_
                  refine o_val rfl rfl rfl (y_move (v := (.int _ _)) rfl) ?_
                  refine o_nil ?_
                  exact ⟨LW8.mk (g.i + 1) (g.gs ++ [k3]) A123 c124 E125 (g.its ++ [(IR.mk ((g.i : Nat) : Int) ((g.gs ++ [k3]).getD ((g.i : Nat) : Int).toNat 0) cB cs.length cc cs)]) A218 c219 E220 (cE ++ (cP ++ g.P)) cS, (by first | omega | (dsimp only; omega)), ⟨by dsimp only; omega, by simp only [List.length_append, List.length_singleton]; omega, gens_snoc hgg ⟨hk30, hk31 (by decide)⟩, by dsimp only; rw [List.length_append]; exact ho128, by dsimp only; rw [List.length_append]; exact ho223, all_snoc (fun x hx => ((hii x hx).sub inG_right).sub inG_right) ⟨rfl, hco.2.1, by dsimp only; omega, hco.mem.ms inG_left, fun y hy => ((hcx y hy).sub inG_left).sub inG_right⟩, items_snoc (items_more hip) ⟨(show lastI g.its g.its.length < ((g.i : Nat) : Int) from lastI_lt hie (by omega)), by simp only [List.length_append, List.length_singleton]; omega, rfl, by dsimp only; rw [getD_snoc (by omega), if_pos (by omega)]; omega, hch⟩, all_snoc (fun x hx => by have := hie x hx; dsimp only; omega) (by dsimp only; omega), by simp only [List.length_append, List.length_singleton]; omega, by simp only [List.length_append, List.length_singleton]; omega, hst1⟩, ⟨(congrArg (Value.int .i64) (by (try dsimp only); omega)), rfl, rfl, rfl, rfl, trivial⟩, (by dsimp only; rw [List.length_append, List.length_append]; exact sub_picks [1, 1, 2, 1, 0, 0, 0, 0] rfl)⟩
                · refine o_val rfl rfl rfl (y_load Try.isAgg22 rfl (cel_own 3 rfl rfl)) ?_
                  refine o_nil ?_
                  refine d_val (i := 6) rfl (by kernel_rfl) (by kernel_rfl) (by kernel_rfl) rfl rfl rfl (y_index1 Try.runUnderlying22 Try.sizeOf3 (ho128.some_of (by omega)) rfl rfl (by omega)) ?_
                  refine d_val (i := 7) rfl (by kernel_rfl) (by kernel_rfl) (by kernel_rfl) rfl rfl rfl (y_load Try.isAgg3 rfl (cel_int (ho128.cels (j := 0) rfl) (by simp only [List.length_append, List.length_singleton]; omega))) ?_
                  refine d_val (i := 8) rfl (by kernel_rfl) (by kernel_rfl) (by kernel_rfl) rfl rfl rfl (y_build (vs := [(0, .int _ _), (1, .int _ _)]) rfl (GenW_k3 _ _)) ?_
                  refine d_val (i := 13) rfl (by kernel_rfl) (by kernel_rfl) (by kernel_rfl) rfl rfl rfl (y_build (vs := [(0, .agg #[.int _ _, .int _ _]), (1, .slice _ _ _)]) rfl (GenW_k4 _ _ _ _ _)) ?_
                  refine d_eff2 (k := 1) (k' := 14) (n := 5) (m := 6) rfl rfl (by kernel_rfl) rfl ?_ ?_
                  · refine o_val rfl rfl rfl (y_load Try.isAgg45 rfl (cel_own 3 rfl rfl)) ?_
                    refine o_nil ?_
                    refine d_eff (k := 14) (n := 5) (m := 6) rfl (by kernel_rfl) rfl ?_
                    refine o_lit (vs := [(0, .agg #[.int _ _, .int _ _, .slice _ _ _])]) rfl rfl (GenW_k5 _ _ _ _ _) (fun b224 => ?_)
                    refine o_nil ?_
                    refine d_eff (k := 15) (n := 5) (m := 6) rfl (by kernel_rfl) rfl ?_
                    refine o_append (sz := 3) (bytes := 40) (news := [(.int _ _), (.int _ _), (.slice _ _ _)]) 4 rfl Try.underlying45 Try.type136 rfl rfl rfl rfl rfl hio rfl rfl (Src.slice Try.underlying45 (cels_own 11 rfl rfl) rfl (by simp [Value.oneCell']) (by simp)) (by omega) (fun A225 c226 E227 ho228 hn229 => ?_)
                    have ho230 : OS A225 (g.its.length + 1) c226 136 3 ((g.its ++ [(IR.mk ((g.i : Nat) : Int) ((g.gs ++ [k3]).getD ((g.i : Nat) : Int).toNat 0) cB cs.length cc cs)]).flatMap encIt) E227 := os_snoc ho228 rfl
                    clear ho228
                    refine o_nil ?_
                    refine d_val (i := 16) rfl (by kernel_rfl) (by kernel_rfl) (by kernel_rfl) rfl rfl rfl (y_field0 Try.runUnderlying47 rfl Try.sizeOf45 rfl rfl) ?_
                    refine d_eff (k := 17) (n := 5) (m := 6) rfl (by kernel_rfl) rfl ?_
                    refine o_store (v := (.slice _ _ _)) 3 rfl Try.sizeOf45 rfl rfl rfl rfl ?_
                    refine o_nil ?_
                    refine d_nil (n := 5) (m := 6) (by kernel_rfl) rfl ?_
                    refine s_norm [_, _, _, [(_, .cells [(.slice _ _ _), (.slice _ _ _), (.slice _ _ _)].toArray 47 (0, 0))], _, _, _, _, _, [(_, .cells [(.slice _ _ _), (.slice _ _ _), (.slice _ _ _)].toArray 47 (0, 0))], [(_, .cells [(.int _ _)].toArray 3 (0, 0))], [(_, .cells [(.int _ _), (.int _ _), (.slice _ _ _)].toArray 136 (0, 0))]] rfl ?_
                    refine s_forget [(2, (.pointer _)), (3, (.pointer _)), (4, (.pointer _)), (13, (.int _ _)), (14, (.int _ _))] ⟨rfl, rfl, rfl, rfl, rfl, trivial⟩ (fun _f => ?_)
                    refine s_region ?_
                    refine o_pull 6 ?_
                    refine o_pull 3 ?_
                    refine o_fuse ?_
                    refine o_pull 2 ?_
                    refine o_fuse ?_
                    refine o_val rfl rfl rfl (y_add rfl rfl (by simp only [inK]; omega)) ?_
                    refine o_val rfl rfl rfl (y_move (v := (.int _ _)) rfl) ?_
                    refine o_nil ?_
                    exact ⟨LW8.mk (g.i + 1) (g.gs ++ [k3]) A123 c124 E125 (g.its ++ [(IR.mk ((g.i : Nat) : Int) ((g.gs ++ [k3]).getD ((g.i : Nat) : Int).toNat 0) cB cs.length cc cs)]) A225 c226 E227 (cE ++ (cP ++ g.P)) cS, (by first | omega | (dsimp only; omega)), ⟨by dsimp only; omega, by simp only [List.length_append, List.length_singleton]; omega, gens_snoc hgg ⟨hk30, hk31 (by decide)⟩, by dsimp only; rw [List.length_append]; exact ho128, by dsimp only; rw [List.length_append]; exact ho230, all_snoc (fun x hx => ((hii x hx).sub inG_right).sub inG_right) ⟨rfl, hco.2.1, by dsimp only; omega, hco.mem.ms inG_left, fun y hy => ((hcx y hy).sub inG_left).sub inG_right⟩, items_snoc (items_more hip) ⟨(show lastI g.its g.its.length < ((g.i : Nat) : Int) from lastI_lt hie (by omega)), by simp only [List.length_append, List.length_singleton]; omega, rfl, by dsimp only; rw [getD_snoc (by omega), if_pos (by omega)]; omega, hch⟩, all_snoc (fun x hx => by have := hie x hx; dsimp only; omega) (by dsimp only; omega), by simp only [List.length_append, List.length_singleton]; omega, by simp only [List.length_append, List.length_singleton]; omega, hst1⟩, ⟨(congrArg (Value.int .i64) (by (try dsimp only); omega)), rfl, rfl, rfl, rfl, trivial⟩, (by dsimp only; rw [List.length_append, List.length_append]; exact sub_picks [1, 1, 2, 1, 0, 0, 0, 0] rfl)⟩
                  · refine o_lit (vs := [(0, .agg #[.int _ _, .int _ _, .slice _ _ _])]) rfl rfl (GenW_k5 _ _ _ _ _) (fun b231 => ?_)
                    refine o_nil ?_
                    refine d_now (i := 1) [] rfl (by kernel_rfl) (by kernel_rfl) (by kernel_rfl) rfl rfl rfl (y_load Try.isAgg45 rfl (cel_own 3 rfl rfl)) trivial ?_
                    refine d_eff (k := 15) (n := 5) (m := 6) rfl (by kernel_rfl) rfl ?_
                    refine o_append (sz := 3) (bytes := 40) (news := [(.int _ _), (.int _ _), (.slice _ _ _)]) 4 rfl Try.underlying45 Try.type136 rfl rfl rfl rfl rfl hio rfl rfl (Src.slice Try.underlying45 (cels_own 11 rfl rfl) rfl (by simp [Value.oneCell']) (by simp)) (by omega) (fun A232 c233 E234 ho235 hn236 => ?_)
                    have ho237 : OS A232 (g.its.length + 1) c233 136 3 ((g.its ++ [(IR.mk ((g.i : Nat) : Int) ((g.gs ++ [k3]).getD ((g.i : Nat) : Int).toNat 0) cB cs.length cc cs)]).flatMap encIt) E234 := os_snoc ho235 rfl
                    clear ho235
                    refine o_nil ?_
                    refine d_val (i := 16) rfl (by kernel_rfl) (by kernel_rfl) (by kernel_rfl) rfl rfl rfl (y_field0 Try.runUnderlying47 rfl Try.sizeOf45 rfl rfl) ?_
                    refine d_eff (k := 17) (n := 5) (m := 6) rfl (by kernel_rfl) rfl ?_
                    refine o_store (v := (.slice _ _ _)) 3 rfl Try.sizeOf45 rfl rfl rfl rfl ?_
                    refine o_nil ?_
                    refine d_nil (n := 5) (m := 6) (by kernel_rfl) rfl ?_
                    refine s_norm [_, _, _, [(_, .cells [(.slice _ _ _), (.slice _ _ _), (.slice _ _ _)].toArray 47 (0, 0))], _, _, _, _, _, [(_, .cells [(.slice _ _ _), (.slice _ _ _), (.slice _ _ _)].toArray 47 (0, 0))], [(_, .cells [(.int _ _)].toArray 3 (0, 0))], [(_, .cells [(.int _ _), (.int _ _), (.slice _ _ _)].toArray 136 (0, 0))]] rfl ?_
                    refine s_forget [(2, (.pointer _)), (3, (.pointer _)), (4, (.pointer _)), (13, (.int _ _)), (14, (.int _ _))] ⟨rfl, rfl, rfl, rfl, rfl, trivial⟩ (fun _f => ?_)
                    refine s_region ?_
                    refine o_pull 6 ?_
                    refine o_pull 3 ?_
                    refine o_fuse ?_
                    refine o_pull 2 ?_
                    refine o_fuse ?_
                    refine o_val rfl rfl rfl (y_add rfl rfl (by simp only [inK]; omega)) ?_
                    refine o_val rfl rfl rfl (y_move (v := (.int _ _)) rfl) ?_
                    refine o_nil ?_
                    exact ⟨LW8.mk (g.i + 1) (g.gs ++ [k3]) A123 c124 E125 (g.its ++ [(IR.mk ((g.i : Nat) : Int) ((g.gs ++ [k3]).getD ((g.i : Nat) : Int).toNat 0) cB cs.length cc cs)]) A232 c233 E234 (cE ++ (cP ++ g.P)) cS, (by first | omega | (dsimp only; omega)), ⟨by dsimp only; omega, by simp only [List.length_append, List.length_singleton]; omega, gens_snoc hgg ⟨hk30, hk31 (by decide)⟩, by dsimp only; rw [List.length_append]; exact ho128, by dsimp only; rw [List.length_append]; exact ho237, all_snoc (fun x hx => ((hii x hx).sub inG_right).sub inG_right) ⟨rfl, hco.2.1, by dsimp only; omega, hco.mem.ms inG_left, fun y hy => ((hcx y hy).sub inG_left).sub inG_right⟩, items_snoc (items_more hip) ⟨(show lastI g.its g.its.length < ((g.i : Nat) : Int) from lastI_lt hie (by omega)), by simp only [List.length_append, List.length_singleton]; omega, rfl, by dsimp only; rw [getD_snoc (by omega), if_pos (by omega)]; omega, hch⟩, all_snoc (fun x hx => by have := hie x hx; dsimp only; omega) (by dsimp only; omega), by simp only [List.length_append, List.length_singleton]; omega, by simp only [List.length_append, List.length_singleton]; omega, hst1⟩, ⟨(congrArg (Value.int .i64) (by (try dsimp only); omega)), rfl, rfl, rfl, rfl, trivial⟩, (by dsimp only; rw [List.length_append, List.length_append]; exact sub_picks [1, 1, 2, 1, 0, 0, 0, 0] rfl)⟩
      · refine o_lit (vs := [(0, .int _ _)]) rfl rfl (GenW_k2 _) (fun b238 => ?_)
        refine o_nil ?_
        refine d_now (i := 1) [] rfl (by kernel_rfl) (by kernel_rfl) (by kernel_rfl) rfl rfl rfl (y_load Try.isAgg22 rfl (cel_own 1 rfl rfl)) trivial ?_
        refine d_eff (k := 5) (n := 3) (m := 5) rfl (by kernel_rfl) rfl ?_
        refine o_append (sz := 1) (bytes := 8) (news := [(.int _ _)]) 2 rfl Try.underlying22 Try.type3 rfl rfl rfl rfl rfl hgo rfl rfl (Src.slice Try.underlying22 (cels_own 8 rfl rfl) rfl (by simp [Value.oneCell']) (by simp)) (by omega) (fun A239 c240 E241 ho242 hn243 => ?_)
        have ho244 : OS A239 (g.gs.length + 1) c240 3 1 ((g.gs ++ [k3]).map (.int .i64)) E241 := (os_eq ho242 (by rw [List.map_append]; rfl))
        clear ho242
        refine o_nil ?_
        refine d_val (i := 6) rfl (by kernel_rfl) (by kernel_rfl) (by kernel_rfl) rfl rfl rfl (y_field0 Try.runUnderlying47 rfl Try.sizeOf22 rfl rfl) ?_
        refine d_eff (k := 7) (n := 3) (m := 5) rfl (by kernel_rfl) rfl ?_
        refine o_store (v := (.slice _ _ _)) 1 rfl Try.sizeOf22 rfl rfl rfl rfl ?_
        refine o_nil ?_
        refine d_nil (n := 3) (m := 5) (by kernel_rfl) rfl ?_
        refine s_norm [_, [(_, .cells [(.slice _ _ _), (.slice _ _ _), (.slice _ _ _)].toArray 47 (0, 0))], _, _, _, _, _, [(_, .cells [(.slice _ _ _), (.slice _ _ _), (.slice _ _ _)].toArray 47 (0, 0))], [(_, .cells [(.int _ _)].toArray 3 (0, 0))]] rfl ?_
        refine s_forget [(2, (.pointer _)), (3, (.pointer _)), (4, (.pointer _)), (5, (.int _ _)), (13, (.int _ _)), (14, (.int _ _))] ⟨rfl, rfl, rfl, rfl, rfl, rfl, trivial⟩ (fun _f => ?_)
        refine s_seq ?_
        refine s_seq ?_
        refine s_region ?_
        refine o_val rfl rfl rfl (y_move (v := (.pointer _)) rfl) ?_
        refine o_fn 1 (d := 25) rfl Try.call87 (NextS_c hst1 (hm0 := MSub.ext) 4 (by omega)) rfl ?_
        rintro _ _ ⟨k4, sG', rfl, hk40, hk41, hst1, rfl⟩
        refine o_split rfl rfl rfl (y_eql rfl rfl) (fun p245 => ?_) (fun p246 => ?_)
        · refine o_val rfl rfl rfl (y_move (v := (.bool _)) rfl) ?_
          refine o_guard_no rfl rfl rfl rfl rfl ?_
          refine o_guard_no rfl rfl rfl rfl rfl ?_
          refine o_guard_no rfl rfl rfl rfl rfl ?_
          refine o_guard_no rfl rfl rfl rfl rfl ?_
          refine o_val rfl rfl rfl (y_pick_t (v := (.bool _)) rfl rfl) ?_
          refine o_nil ?_
          refine s_then rfl ?_
          refine s_exit ?_
          refine s_region ?_
          refine o_val rfl rfl rfl (y_add rfl rfl (by simp only [inK]; omega)) ?_
          refine o_val rfl rfl rfl (y_move (v := (.int _ _)) rfl) ?_
          refine o_nil ?_
          exact ⟨LW8.mk (g.i + 1) (g.gs ++ [k3]) A239 c240 E241 g.its g.iA g.iC g.iE g.P sG', (by first | omega | (dsimp only; omega)), ⟨by dsimp only; omega, by simp only [List.length_append, List.length_singleton]; omega, gens_snoc hgg ⟨hk30, hk31 (by decide)⟩, by dsimp only; rw [List.length_append]; exact ho244, hio, hii, items_more hip, fun x hx => by have := hie x hx; dsimp only; omega, hi8, by dsimp only; omega, hst1⟩, ⟨(congrArg (Value.int .i64) (by (try dsimp only); omega)), rfl, rfl, rfl, rfl, trivial⟩, (by dsimp only; rw [List.length_append]; exact sub_picks [0, 0, 0, 0, 0, 0, 0, 0] rfl)⟩
        · refine o_val rfl rfl rfl (y_move (v := (.bool _)) rfl) ?_
          refine o_guard_yes rfl rfl ?_
          refine o_val rfl rfl rfl (y_field0 Try.runUnderlying47 rfl Try.sizeOf45 rfl rfl) ?_
          refine o_guard_yes rfl rfl ?_
          refine o_val rfl rfl rfl (y_load Try.isAgg45 rfl (cel_own 1 rfl rfl)) ?_
          refine o_guard_yes rfl rfl ?_
          refine o_val rfl rfl rfl (y_len Try.runUnderlying45 rfl) ?_
          refine o_guard_yes rfl rfl ?_
          refine o_val rfl rfl rfl (y_eql rfl rfl) ?_
          refine o_val rfl rfl rfl (y_pick_f (v := (.bool _)) rfl rfl) ?_
          refine o_nil ?_
          refine s_if rfl (fun h247 => ?_) (fun h248 => ?_)
          · refine s_exit ?_
            refine s_region ?_
            refine o_val rfl rfl rfl (y_add rfl rfl (by simp only [inK]; omega)) ?_
            refine o_val rfl rfl rfl (y_move (v := (.int _ _)) rfl) ?_
            refine o_nil ?_
            exact ⟨LW8.mk (g.i + 1) (g.gs ++ [k3]) A239 c240 E241 g.its g.iA g.iC g.iE g.P sG', (by first | omega | (dsimp only; omega)), ⟨by dsimp only; omega, by simp only [List.length_append, List.length_singleton]; omega, gens_snoc hgg ⟨hk30, hk31 (by decide)⟩, by dsimp only; rw [List.length_append]; exact ho244, hio, hii, items_more hip, fun x hx => by have := hie x hx; dsimp only; omega, hi8, by dsimp only; omega, hst1⟩, ⟨(congrArg (Value.int .i64) (by (try dsimp only); omega)), rfl, rfl, rfl, rfl, trivial⟩, (by dsimp only; rw [List.length_append]; exact sub_picks [0, 0, 0, 0, 0, 0, 0, 0] rfl)⟩
          · refine s_skip ?_
            refine s_pull 3 ?_
            refine s_pull 2 ?_
            refine s_pull 2 ?_
            refine s_drawn 3 (by kernel_rfl) ?_
            refine d_val (i := 0) rfl (by kernel_rfl) (by kernel_rfl) (by kernel_rfl) rfl rfl rfl (y_field0 Try.runUnderlying47 rfl Try.sizeOf45 rfl rfl) ?_
            refine d_val (i := 2) rfl (by kernel_rfl) (by kernel_rfl) (by kernel_rfl) rfl rfl rfl (y_move (v := (.int _ _)) rfl) ?_
            refine d_val (i := 3) rfl (by kernel_rfl) (by kernel_rfl) (by kernel_rfl) rfl rfl rfl (y_field0 Try.runUnderlying47 rfl Try.sizeOf22 rfl rfl) ?_
            refine d_val (i := 5) rfl (by kernel_rfl) (by kernel_rfl) (by kernel_rfl) rfl rfl rfl (y_move (v := (.int _ _)) rfl) ?_
            refine d_val (i := 9) rfl (by kernel_rfl) (by kernel_rfl) (by kernel_rfl) rfl rfl rfl (y_field0 Try.runUnderlying47 rfl Try.sizeOf23 rfl rfl) ?_
            refine d_val (i := 11) rfl (by kernel_rfl) (by kernel_rfl) (by kernel_rfl) rfl rfl rfl (y_move (v := (.pointer _)) rfl) ?_
            refine d_eff3 (k := 1) (k' := 4) (k'' := 10) (n := 3) (m := 6) rfl rfl rfl (by kernel_rfl) rfl ?_ ?_ ?_
            · refine o_val rfl rfl rfl (y_load Try.isAgg45 rfl (cel_own 1 rfl rfl)) ?_
              refine o_nil ?_
              refine d_eff2 (k := 4) (k' := 10) (n := 3) (m := 6) rfl rfl (by kernel_rfl) rfl ?_ ?_
              · refine o_val rfl rfl rfl (y_load Try.isAgg22 rfl (cel_own 1 rfl rfl)) ?_
                refine o_nil ?_
                refine d_val (i := 6) rfl (by kernel_rfl) (by kernel_rfl) (by kernel_rfl) rfl rfl rfl (y_index1 Try.runUnderlying22 Try.sizeOf3 (ho244.some_of (by omega)) rfl rfl (by omega)) ?_
                refine d_val (i := 7) rfl (by kernel_rfl) (by kernel_rfl) (by kernel_rfl) rfl rfl rfl (y_load Try.isAgg3 rfl (cel_int (ho244.cels (j := 0) rfl) (by simp only [List.length_append, List.length_singleton]; omega))) ?_
                refine d_val (i := 8) rfl (by kernel_rfl) (by kernel_rfl) (by kernel_rfl) rfl rfl rfl (y_build (vs := [(0, .int _ _), (1, .int _ _)]) rfl (GenW_k3 _ _)) ?_
                refine d_now (i := 10) [] rfl (by kernel_rfl) (by kernel_rfl) (by kernel_rfl) rfl rfl rfl (y_load Try.isAgg23 rfl (cel_own 1 rfl rfl)) trivial ?_
                refine d_eff (k := 12) (n := 3) (m := 6) rfl (by kernel_rfl) rfl ?_
                refine o_fn 1 (d := 45) rfl Try.call92 (GenC_c hst1 MSub.ext kB kx.length kc kx ⟨rfl, hko.2.1, by omega, (hko.cels (j := 4) rfl).down, fun x hx => (hkx x hx).sub (inG_ext (j := 5) rfl)⟩ hck) rfl ?_
                rintro _ _ ⟨cB, cc, cE, cP, cS, cs, rfl, hco, hcx, hch, hc16, hst1, rfl⟩
                refine o_nil ?_
                refine d_val (i := 13) rfl (by kernel_rfl) (by kernel_rfl) (by kernel_rfl) rfl rfl rfl (y_build (vs := [(0, .agg #[.int _ _, .int _ _]), (1, .slice _ _ _)]) rfl (GenW_k4 _ _ _ _ _)) ?_
                refine d_eff (k := 14) (n := 5) (m := 6) rfl (by kernel_rfl) rfl ?_
                refine o_lit (vs := [(0, .agg #[.int _ _, .int _ _, .slice _ _ _])]) rfl rfl (GenW_k5 _ _ _ _ _) (fun b249 => ?_)
                refine o_nil ?_
                refine d_eff (k := 15) (n := 5) (m := 6) rfl (by kernel_rfl) rfl ?_
                refine o_append (sz := 3) (bytes := 40) (news := [(.int _ _), (.int _ _), (.slice _ _ _)]) 4 rfl Try.underlying45 Try.type136 rfl rfl rfl rfl rfl hio rfl rfl (Src.slice Try.underlying45 (cels_own 11 rfl rfl) rfl (by simp [Value.oneCell']) (by simp)) (by omega) (fun A250 c251 E252 ho253 hn254 => ?_)
                have ho255 : OS A250 (g.its.length + 1) c251 136 3 ((g.its ++ [(IR.mk ((g.i : Nat) : Int) ((g.gs ++ [k3]).getD ((g.i : Nat) : Int).toNat 0) cB cs.length cc cs)]).flatMap encIt) E252 := os_snoc ho253 rfl
                clear ho253
                refine o_nil ?_
                refine d_val (i := 16) rfl (by kernel_rfl) (by kernel_rfl) (by kernel_rfl) rfl rfl rfl (y_field0 Try.runUnderlying47 rfl Try.sizeOf45 rfl rfl) ?_
                refine d_eff (k := 17) (n := 5) (m := 6) rfl (by kernel_rfl) rfl ?_
                refine o_store (v := (.slice _ _ _)) 3 rfl Try.sizeOf45 rfl rfl rfl rfl ?_
                refine o_nil ?_
                refine d_nil (n := 5) (m := 6) (by kernel_rfl) rfl ?_
                refine s_norm [_, _, _, [(_, .cells [(.slice _ _ _), (.slice _ _ _), (.slice _ _ _)].toArray 47 (0, 0))], _, _, _, _, _, [(_, .cells [(.slice _ _ _), (.slice _ _ _), (.slice _ _ _)].toArray 47 (0, 0))], [(_, .cells [(.int _ _)].toArray 3 (0, 0))], [(_, .cells [(.int _ _), (.int _ _), (.slice _ _ _)].toArray 136 (0, 0))]] rfl ?_
                refine s_forget [(2, (.pointer _)), (3, (.pointer _)), (4, (.pointer _)), (13, (.int _ _)), (14, (.int _ _))] ⟨rfl, rfl, rfl, rfl, rfl, trivial⟩ (fun _f => ?_)
                refine s_region ?_
                refine o_pull 6 ?_
                refine o_pull 3 ?_
                refine o_fuse ?_
                refine o_pull 2 ?_
                refine o_fuse ?_
                refine o_val rfl rfl rfl (y_add rfl rfl (by simp only [inK]; omega)) ?_
                refine o_val rfl rfl rfl (y_move (v := (.int _ _)) rfl) ?_
                refine o_nil ?_
                exact ⟨LW8.mk (g.i + 1) (g.gs ++ [k3]) A239 c240 E241 (g.its ++ [(IR.mk ((g.i : Nat) : Int) ((g.gs ++ [k3]).getD ((g.i : Nat) : Int).toNat 0) cB cs.length cc cs)]) A250 c251 E252 (cE ++ (cP ++ g.P)) cS, (by first | omega | (dsimp only; omega)), ⟨by dsimp only; omega, by simp only [List.length_append, List.length_singleton]; omega, gens_snoc hgg ⟨hk30, hk31 (by decide)⟩, by dsimp only; rw [List.length_append]; exact ho244, by dsimp only; rw [List.length_append]; exact ho255, all_snoc (fun x hx => ((hii x hx).sub inG_right).sub inG_right) ⟨rfl, hco.2.1, by dsimp only; omega, hco.mem.ms inG_left, fun y hy => ((hcx y hy).sub inG_left).sub inG_right⟩, items_snoc (items_more hip) ⟨(show lastI g.its g.its.length < ((g.i : Nat) : Int) from lastI_lt hie (by omega)), by simp only [List.length_append, List.length_singleton]; omega, rfl, by dsimp only; rw [getD_snoc (by omega), if_pos (by omega)]; omega, hch⟩, all_snoc (fun x hx => by have := hie x hx; dsimp only; omega) (by dsimp only; omega), by simp only [List.length_append, List.length_singleton]; omega, by simp only [List.length_append, List.length_singleton]; omega, hst1⟩, ⟨(congrArg (Value.int .i64) (by (try dsimp only); omega)), rfl, rfl, rfl, rfl, trivial⟩, (by dsimp only; rw [List.length_append, List.length_append]; exact sub_picks [1, 1, 2, 1, 0, 0, 0, 0] rfl)⟩
              · refine o_val rfl rfl rfl (y_load Try.isAgg23 rfl (cel_own 1 rfl rfl)) ?_
                refine o_nil ?_
                refine d_eff2 (k := 4) (k' := 12) (n := 3) (m := 6) rfl rfl (by kernel_rfl) rfl ?_ ?_
                · refine o_val rfl rfl rfl (y_load Try.isAgg22 rfl (cel_own 1 rfl rfl)) ?_
                  refine o_nil ?_
                  refine d_val (i := 6) rfl (by kernel_rfl) (by kernel_rfl) (by kernel_rfl) rfl rfl rfl (y_index1 Try.runUnderlying22 Try.sizeOf3 (ho244.some_of (by omega)) rfl rfl (by omega)) ?_
                  refine d_val (i := 7) rfl (by kernel_rfl) (by kernel_rfl) (by kernel_rfl) rfl rfl rfl (y_load Try.isAgg3 rfl (cel_int (ho244.cels (j := 0) rfl) (by simp only [List.length_append, List.length_singleton]; omega))) ?_
                  refine d_val (i := 8) rfl (by kernel_rfl) (by kernel_rfl) (by kernel_rfl) rfl rfl rfl (y_build (vs := [(0, .int _ _), (1, .int _ _)]) rfl (GenW_k3 _ _)) ?_
                  refine d_eff (k := 12) (n := 3) (m := 6) rfl (by kernel_rfl) rfl ?_
                  refine o_fn 1 (d := 45) rfl Try.call92 (GenC_c hst1 MSub.ext kB kx.length kc kx ⟨rfl, hko.2.1, by omega, (hko.cels (j := 4) rfl).down, fun x hx => (hkx x hx).sub (inG_ext (j := 5) rfl)⟩ hck) rfl ?_
                  rintro _ _ ⟨cB, cc, cE, cP, cS, cs, rfl, hco, hcx, hch, hc16, hst1, rfl⟩
                  refine o_nil ?_
                  refine d_val (i := 13) rfl (by kernel_rfl) (by kernel_rfl) (by kernel_rfl) rfl rfl rfl (y_build (vs := [(0, .agg #[.int _ _, .int _ _]), (1, .slice _ _ _)]) rfl (GenW_k4 _ _ _ _ _)) ?_
                  refine d_eff (k := 14) (n := 5) (m := 6) rfl (by kernel_rfl) rfl ?_
                  refine o_lit (vs := [(0, .agg #[.int _ _, .int _ _, .slice _ _ _])]) rfl rfl (GenW_k5 _ _ _ _ _) (fun b256 => ?_)
                  refine o_nil ?_
                  refine d_eff (k := 15) (n := 5) (m := 6) rfl (by kernel_rfl) rfl ?_
                  refine o_append (sz := 3) (bytes := 40) (news := [(.int _ _), (.int _ _), (.slice _ _ _)]) 4 rfl Try.underlying45 Try.type136 rfl rfl rfl rfl rfl hio rfl rfl (Src.slice Try.underlying45 (cels_own 11 rfl rfl) rfl (by simp [Value.oneCell']) (by simp)) (by omega) (fun A257 c258 E259 ho260 hn261 => ?_)
                  have ho262 : OS A257 (g.its.length + 1) c258 136 3 ((g.its ++ [(IR.mk ((g.i : Nat) : Int) ((g.gs ++ [k3]).getD ((g.i : Nat) : Int).toNat 0) cB cs.length cc cs)]).flatMap encIt) E259 := os_snoc ho260 rfl
                  clear ho260
                  refine o_nil ?_
                  refine d_val (i := 16) rfl (by kernel_rfl) (by kernel_rfl) (by kernel_rfl) rfl rfl rfl (y_field0 Try.runUnderlying47 rfl Try.sizeOf45 rfl rfl) ?_
                  refine d_eff (k := 17) (n := 5) (m := 6) rfl (by kernel_rfl) rfl ?_
                  refine o_store (v := (.slice _ _ _)) 3 rfl Try.sizeOf45 rfl rfl rfl rfl ?_
                  refine o_nil ?_
                  refine d_nil (n := 5) (m := 6) (by kernel_rfl) rfl ?_
                  refine s_norm [_, _, _, [(_, .cells [(.slice _ _ _), (.slice _ _ _), (.slice _ _ _)].toArray 47 (0, 0))], _, _, _, _, _, [(_, .cells [(.slice _ _ _), (.slice _ _ _), (.slice _ _ _)].toArray 47 (0, 0))], [(_, .cells [(.int _ _)].toArray 3 (0, 0))], [(_, .cells [(.int _ _), (.int _ _), (.slice _ _ _)].toArray 136 (0, 0))]] rfl ?_
                  refine s_forget [(2, (.pointer _)), (3, (.pointer _)), (4, (.pointer _)), (13, (.int _ _)), (14, (.int _ _))] ⟨rfl, rfl, rfl, rfl, rfl, trivial⟩ (fun _f => ?_)
                  refine s_region ?_
                  refine o_pull 6 ?_
                  refine o_pull 3 ?_
                  refine o_fuse ?_
                  refine o_pull 2 ?_
                  refine o_fuse ?_
                  refine o_val rfl rfl rfl (y_add rfl rfl (by simp only [inK]; omega)) ?_
                  refine o_val rfl rfl rfl (y_move (v := (.int _ _)) rfl) ?_
                  refine o_nil ?_
                  exact ⟨LW8.mk (g.i + 1) (g.gs ++ [k3]) A239 c240 E241 (g.its ++ [(IR.mk ((g.i : Nat) : Int) ((g.gs ++ [k3]).getD ((g.i : Nat) : Int).toNat 0) cB cs.length cc cs)]) A257 c258 E259 (cE ++ (cP ++ g.P)) cS, (by first | omega | (dsimp only; omega)), ⟨by dsimp only; omega, by simp only [List.length_append, List.length_singleton]; omega, gens_snoc hgg ⟨hk30, hk31 (by decide)⟩, by dsimp only; rw [List.length_append]; exact ho244, by dsimp only; rw [List.length_append]; exact ho262, all_snoc (fun x hx => ((hii x hx).sub inG_right).sub inG_right) ⟨rfl, hco.2.1, by dsimp only; omega, hco.mem.ms inG_left, fun y hy => ((hcx y hy).sub inG_left).sub inG_right⟩, items_snoc (items_more hip) ⟨(show lastI g.its g.its.length < ((g.i : Nat) : Int) from lastI_lt hie (by omega)), by simp only [List.length_append, List.length_singleton]; omega, rfl, by dsimp only; rw [getD_snoc (by omega), if_pos (by omega)]; omega, hch⟩, all_snoc (fun x hx => by have := hie x hx; dsimp only; omega) (by dsimp only; omega), by simp only [List.length_append, List.length_singleton]; omega, by simp only [List.length_append, List.length_singleton]; omega, hst1⟩, ⟨(congrArg (Value.int .i64) (by (try dsimp only); omega)), rfl, rfl, rfl, rfl, trivial⟩, (by dsimp only; rw [List.length_append, List.length_append]; exact sub_picks [1, 1, 2, 1, 0, 0, 0, 0] rfl)⟩
                · refine o_fn 1 (d := 45) rfl Try.call92 (GenC_c hst1 MSub.ext kB kx.length kc kx ⟨rfl, hko.2.1, by omega, (hko.cels (j := 4) rfl).down, fun x hx => (hkx x hx).sub (inG_ext (j := 5) rfl)⟩ hck) rfl ?_
                  rintro _ _ ⟨cB, cc, cE, cP, cS, cs, rfl, hco, hcx, hch, hc16, hst1, rfl⟩
                  refine o_nil ?_
                  refine d_now (i := 4) [] rfl (by kernel_rfl) (by kernel_rfl) (by kernel_rfl) rfl rfl rfl (y_load Try.isAgg22 rfl (cel_own 3 rfl rfl)) trivial ?_
                  refine d_val (i := 6) rfl (by kernel_rfl) (by kernel_rfl) (by kernel_rfl) rfl rfl rfl (y_index1 Try.runUnderlying22 Try.sizeOf3 (ho244.some_of (by omega)) rfl rfl (by omega)) ?_
                  refine d_val (i := 7) rfl (by kernel_rfl) (by kernel_rfl) (by kernel_rfl) rfl rfl rfl (y_load Try.isAgg3 rfl (cel_int (ho244.cels (j := 0) rfl) (by simp only [List.length_append, List.length_singleton]; omega))) ?_
                  refine d_val (i := 8) rfl (by kernel_rfl) (by kernel_rfl) (by kernel_rfl) rfl rfl rfl (y_build (vs := [(0, .int _ _), (1, .int _ _)]) rfl (GenW_k3 _ _)) ?_
                  refine d_val (i := 13) rfl (by kernel_rfl) (by kernel_rfl) (by kernel_rfl) rfl rfl rfl (y_build (vs := [(0, .agg #[.int _ _, .int _ _]), (1, .slice _ _ _)]) rfl (GenW_k4 _ _ _ _ _)) ?_
                  refine d_eff (k := 14) (n := 5) (m := 6) rfl (by kernel_rfl) rfl ?_
                  refine o_lit (vs := [(0, .agg #[.int _ _, .int _ _, .slice _ _ _])]) rfl rfl (GenW_k5 _ _ _ _ _) (fun b263 => ?_)
                  refine o_nil ?_
                  refine d_eff (k := 15) (n := 5) (m := 6) rfl (by kernel_rfl) rfl ?_
                  refine o_append (sz := 3) (bytes := 40) (news := [(.int _ _), (.int _ _), (.slice _ _ _)]) 4 rfl Try.underlying45 Try.type136 rfl rfl rfl rfl rfl hio rfl rfl (Src.slice Try.underlying45 (cels_own 11 rfl rfl) rfl (by simp [Value.oneCell']) (by simp)) (by omega) (fun A264 c265 E266 ho267 hn268 => ?_)
                  have ho269 : OS A264 (g.its.length + 1) c265 136 3 ((g.its ++ [(IR.mk ((g.i : Nat) : Int) ((g.gs ++ [k3]).getD ((g.i : Nat) : Int).toNat 0) cB cs.length cc cs)]).flatMap encIt) E266 := os_snoc ho267 rfl
                  clear ho267
                  refine o_nil ?_
                  refine d_val (i := 16) rfl (by kernel_rfl) (by kernel_rfl) (by kernel_rfl) rfl rfl rfl (y_field0 Try.runUnderlying47 rfl Try.sizeOf45 rfl rfl) ?_
                  refine d_eff (k := 17) (n := 5) (m := 6) rfl (by kernel_rfl) rfl ?_
                  refine o_store (v := (.slice _ _ _)) 3 rfl Try.sizeOf45 rfl rfl rfl rfl ?_
                  refine o_nil ?_
                  refine d_nil (n := 5) (m := 6) (by kernel_rfl) rfl ?_
                  refine s_norm [_, _, _, [(_, .cells [(.slice _ _ _), (.slice _ _ _), (.slice _ _ _)].toArray 47 (0, 0))], _, _, _, _, _, [(_, .cells [(.slice _ _ _), (.slice _ _ _), (.slice _ _ _)].toArray 47 (0, 0))], [(_, .cells [(.int _ _)].toArray 3 (0, 0))], [(_, .cells [(.int _ _), (.int _ _), (.slice _ _ _)].toArray 136 (0, 0))]] rfl ?_
                  refine s_forget [(2, (.pointer _)), (3, (.pointer _)), (4, (.pointer _)), (13, (.int _ _)), (14, (.int _ _))] ⟨rfl, rfl, rfl, rfl, rfl, trivial⟩ (fun _f => ?_)
                  refine s_region ?_
                  refine o_pull 6 ?_
                  refine o_pull 3 ?_
                  refine o_fuse ?_
                  refine o_pull 2 ?_
                  refine o_fuse ?_
                  refine o_val rfl rfl rfl (y_add rfl rfl (by simp only [inK]; omega)) ?_
                  refine o_val rfl rfl rfl (y_move (v := (.int _ _)) rfl) ?_
                  refine o_nil ?_
                  exact ⟨LW8.mk (g.i + 1) (g.gs ++ [k3]) A239 c240 E241 (g.its ++ [(IR.mk ((g.i : Nat) : Int) ((g.gs ++ [k3]).getD ((g.i : Nat) : Int).toNat 0) cB cs.length cc cs)]) A264 c265 E266 (cE ++ (cP ++ g.P)) cS, (by first | omega | (dsimp only; omega)), ⟨by dsimp only; omega, by simp only [List.length_append, List.length_singleton]; omega, gens_snoc hgg ⟨hk30, hk31 (by decide)⟩, by dsimp only; rw [List.length_append]; exact ho244, by dsimp only; rw [List.length_append]; exact ho269, all_snoc (fun x hx => ((hii x hx).sub inG_right).sub inG_right) ⟨rfl, hco.2.1, by dsimp only; omega, hco.mem.ms inG_left, fun y hy => ((hcx y hy).sub inG_left).sub inG_right⟩, items_snoc (items_more hip) ⟨(show lastI g.its g.its.length < ((g.i : Nat) : Int) from lastI_lt hie (by omega)), by simp only [List.length_append, List.length_singleton]; omega, rfl, by dsimp only; rw [getD_snoc (by omega), if_pos (by omega)]; omega, hch⟩, all_snoc (fun x hx => by have := hie x hx; dsimp only; omega) (by dsimp only; omega), by simp only [List.length_append, List.length_singleton]; omega, by simp only [List.length_append, List.length_singleton]; omega, hst1⟩, ⟨(congrArg (Value.int .i64) (by (try dsimp only); omega)), rfl, rfl, rfl, rfl, trivial⟩, (by dsimp only; rw [List.length_append, List.length_append]; exact sub_picks [1, 1, 2, 1, 0, 0, 0, 0] rfl)⟩
            · refine o_val rfl rfl rfl (y_load Try.isAgg22 rfl (cel_own 1 rfl rfl)) ?_
              refine o_nil ?_
              refine d_val (i := 6) rfl (by kernel_rfl) (by kernel_rfl) (by kernel_rfl) rfl rfl rfl (y_index1 Try.runUnderlying22 Try.sizeOf3 (ho244.some_of (by omega)) rfl rfl (by omega)) ?_
              refine d_val (i := 7) rfl (by kernel_rfl) (by kernel_rfl) (by kernel_rfl) rfl rfl rfl (y_load Try.isAgg3 rfl (cel_int (ho244.cels (j := 0) rfl) (by simp only [List.length_append, List.length_singleton]; omega))) ?_
              refine d_val (i := 8) rfl (by kernel_rfl) (by kernel_rfl) (by kernel_rfl) rfl rfl rfl (y_build (vs := [(0, .int _ _), (1, .int _ _)]) rfl (GenW_k3 _ _)) ?_
              refine d_eff2 (k := 1) (k' := 10) (n := 3) (m := 6) rfl rfl (by kernel_rfl) rfl ?_ ?_
              · refine o_val rfl rfl rfl (y_load Try.isAgg45 rfl (cel_own 1 rfl rfl)) ?_
                refine o_nil ?_
                refine d_now (i := 10) [] rfl (by kernel_rfl) (by kernel_rfl) (by kernel_rfl) rfl rfl rfl (y_load Try.isAgg23 rfl (cel_own 1 rfl rfl)) trivial ?_
                refine d_eff (k := 12) (n := 3) (m := 6) rfl (by kernel_rfl) rfl ?_
                refine o_fn 1 (d := 45) rfl Try.call92 (GenC_c hst1 MSub.ext kB kx.length kc kx ⟨rfl, hko.2.1, by omega, (hko.cels (j := 4) rfl).down, fun x hx => (hkx x hx).sub (inG_ext (j := 5) rfl)⟩ hck) rfl ?_
                rintro _ _ ⟨cB, cc, cE, cP, cS, cs, rfl, hco, hcx, hch, hc16, hst1, rfl⟩
                refine o_nil ?_
                refine d_val (i := 13) rfl (by kernel_rfl) (by kernel_rfl) (by kernel_rfl) rfl rfl rfl (y_build (vs := [(0, .agg #[.int _ _, .int _ _]), (1, .slice _ _ _)]) rfl (GenW_k4 _ _ _ _ _)) ?_
                refine d_eff (k := 14) (n := 5) (m := 6) rfl (by kernel_rfl) rfl ?_
                refine o_lit (vs := [(0, .agg #[.int _ _, .int _ _, .slice _ _ _])]) rfl rfl (GenW_k5 _ _ _ _ _) (fun b270 => ?_)
                refine o_nil ?_
                refine d_eff (k := 15) (n := 5) (m := 6) rfl (by kernel_rfl) rfl ?_
                refine o_append (sz := 3) (bytes := 40) (news := [(.int _ _), (.int _ _), (.slice _ _ _)]) 4 rfl Try.underlying45 Try.type136 rfl rfl rfl rfl rfl hio rfl rfl (Src.slice Try.underlying45 (cels_own 11 rfl rfl) rfl (by simp [Value.oneCell']) (by simp)) (by omega) (fun A271 c272 E273 ho274 hn275 => ?_)
                have ho276 : OS A271 (g.its.length + 1) c272 136 3 ((g.its ++ [(IR.mk ((g.i : Nat) : Int) ((g.gs ++ [k3]).getD ((g.i : Nat) : Int).toNat 0) cB cs.length cc cs)]).flatMap encIt) E273 := os_snoc ho274 rfl
                clear ho274
                refine o_nil ?_
                refine d_val (i := 16) rfl (by kernel_rfl) (by kernel_rfl) (by kernel_rfl) rfl rfl rfl (y_field0 Try.runUnderlying47 rfl Try.sizeOf45 rfl rfl) ?_
                refine d_eff (k := 17) (n := 5) (m := 6) rfl (by kernel_rfl) rfl ?_
                refine o_store (v := (.slice _ _ _)) 3 rfl Try.sizeOf45 rfl rfl rfl rfl ?_
                refine o_nil ?_
                refine d_nil (n := 5) (m := 6) (by kernel_rfl) rfl ?_
                refine s_norm [_, _, _, [(_, .cells [(.slice _ _ _), (.slice _ _ _), (.slice _ _ _)].toArray 47 (0, 0))], _, _, _, _, _, [(_, .cells [(.slice _ _ _), (.slice _ _ _), (.slice _ _ _)].toArray 47 (0, 0))], [(_, .cells [(.int _ _)].toArray 3 (0, 0))], [(_, .cells [(.int _ _), (.int _ _), (.slice _ _ _)].toArray 136 (0, 0))]] rfl ?_
                refine s_forget [(2, (.pointer _)), (3, (.pointer _)), (4, (.pointer _)), (13, (.int _ _)), (14, (.int _ _))] ⟨rfl, rfl, rfl, rfl, rfl, trivial⟩ (fun _f => ?_)
                refine s_region ?_
                refine o_pull 6 ?_
                refine o_pull 3 ?_
                refine o_fuse ?_
                refine o_pull 2 ?_
                refine o_fuse ?_
                refine o_val rfl rfl rfl (y_add rfl rfl (by simp only [inK]; omega)) ?_
                refine o_val rfl rfl rfl (y_move (v := (.int _ _)) rfl) ?_
                refine o_nil ?_
                exact ⟨LW8.mk (g.i + 1) (g.gs ++ [k3]) A239 c240 E241 (g.its ++ [(IR.mk ((g.i : Nat) : Int) ((g.gs ++ [k3]).getD ((g.i : Nat) : Int).toNat 0) cB cs.length cc cs)]) A271 c272 E273 (cE ++ (cP ++ g.P)) cS, (by first | omega | (dsimp only; omega)), ⟨by dsimp only; omega, by simp only [List.length_append, List.length_singleton]; omega, gens_snoc hgg ⟨hk30, hk31 (by decide)⟩, by dsimp only; rw [List.length_append]; exact ho244, by dsimp only; rw [List.length_append]; exact ho276, all_snoc (fun x hx => ((hii x hx).sub inG_right).sub inG_right) ⟨rfl, hco.2.1, by dsimp only; omega, hco.mem.ms inG_left, fun y hy => ((hcx y hy).sub inG_left).sub inG_right⟩, items_snoc (items_more hip) ⟨(show lastI g.its g.its.length < ((g.i : Nat) : Int) from lastI_lt hie (by omega)), by simp only [List.length_append, List.length_singleton]; omega, rfl, by dsimp only; rw [getD_snoc (by omega), if_pos (by omega)]; omega, hch⟩, all_snoc (fun x hx => by have := hie x hx; dsimp only; omega) (by dsimp only; omega), by simp only [List.length_append, List.length_singleton]; omega, by simp only [List.length_append, List.length_singleton]; omega, hst1⟩, ⟨(congrArg (Value.int .i64) (by (try dsimp only); omega)), rfl, rfl, rfl, rfl, trivial⟩, (by dsimp only; rw [List.length_append, List.length_append]; exact sub_picks [1, 1, 2, 1, 0, 0, 0, 0] rfl)⟩
              · refine o_val rfl rfl rfl (y_load Try.isAgg23 rfl (cel_own 1 rfl rfl)) ?_
                refine o_nil ?_
                refine d_eff2 (k := 1) (k' := 12) (n := 3) (m := 6) rfl rfl (by kernel_rfl) rfl ?_ ?_
                · refine o_val rfl rfl rfl (y_load Try.isAgg45 rfl (cel_own 1 rfl rfl)) ?_
                  refine o_nil ?_
                  refine d_eff (k := 12) (n := 3) (m := 6) rfl (by kernel_rfl) rfl ?_
                  refine o_fn 1 (d := 45) rfl Try.call92 (GenC_c hst1 MSub.ext kB kx.length kc kx ⟨rfl, hko.2.1, by omega, (hko.cels (j := 4) rfl).down, fun x hx => (hkx x hx).sub (inG_ext (j := 5) rfl)⟩ hck) rfl ?_
                  rintro _ _ ⟨cB, cc, cE, cP, cS, cs, rfl, hco, hcx, hch, hc16, hst1, rfl⟩
                  refine o_nil ?_
                  refine d_val (i := 13) rfl (by kernel_rfl) (by kernel_rfl) (by kernel_rfl) rfl rfl rfl (y_build (vs := [(0, .agg #[.int _ _, .int _ _]), (1, .slice _ _ _)]) rfl (GenW_k4 _ _ _ _ _)) ?_
                  refine d_eff (k := 14) (n := 5) (m := 6) rfl (by kernel_rfl) rfl ?_
                  refine o_lit (vs := [(0, .agg #[.int _ _, .int _ _, .slice _ _ _])]) rfl rfl (GenW_k5 _ _ _ _ _) (fun b277 => ?_)
                  refine o_nil ?_
                  refine d_eff (k := 15) (n := 5) (m := 6) rfl (by kernel_rfl) rfl ?_
                  refine o_append (sz := 3) (bytes := 40) (news := [(.int _ _), (.int _ _), (.slice _ _ _)]) 4 rfl Try.underlying45 Try.type136 rfl rfl rfl rfl rfl hio rfl rfl (Src.slice Try.underlying45 (cels_own 11 rfl rfl) rfl (by simp [Value.oneCell']) (by simp)) (by omega) (fun A278 c279 E280 ho281 hn282 => ?_)
                  have ho283 : OS A278 (g.its.length + 1) c279 136 3 ((g.its ++ [(IR.mk ((g.i : Nat) : Int) ((g.gs ++ [k3]).getD ((g.i : Nat) : Int).toNat 0) cB cs.length cc cs)]).flatMap encIt) E280 := os_snoc ho281 rfl
                  clear ho281
                  refine o_nil ?_
                  refine d_val (i := 16) rfl (by kernel_rfl) (by kernel_rfl) (by kernel_rfl) rfl rfl rfl (y_field0 Try.runUnderlying47 rfl Try.sizeOf45 rfl rfl) ?_
                  refine d_eff (k := 17) (n := 5) (m := 6) rfl (by kernel_rfl) rfl ?_
                  refine o_store (v := (.slice _ _ _)) 3 rfl Try.sizeOf45 rfl rfl rfl rfl ?_
                  refine o_nil ?_
                  refine d_nil (n := 5) (m := 6) (by kernel_rfl) rfl ?_
                  refine s_norm [_, _, _, [(_, .cells [(.slice _ _ _), (.slice _ _ _), (.slice _ _ _)].toArray 47 (0, 0))], _, _, _, _, _, [(_, .cells [(.slice _ _ _), (.slice _ _ _), (.slice _ _ _)].toArray 47 (0, 0))], [(_, .cells [(.int _ _)].toArray 3 (0, 0))], [(_, .cells [(.int _ _), (.int _ _), (.slice _ _ _)].toArray 136 (0, 0))]] rfl ?_
                  refine s_forget [(2, (.pointer _)), (3, (.pointer _)), (4, (.pointer _)), (13, (.int _ _)), (14, (.int _ _))] ⟨rfl, rfl, rfl, rfl, rfl, trivial⟩ (fun _f => ?_)
                  refine s_region ?_
                  refine o_pull 6 ?_
                  refine o_pull 3 ?_
                  refine o_fuse ?_
                  refine o_pull 2 ?_
                  refine o_fuse ?_
                  refine o_val rfl rfl rfl (y_add rfl rfl (by simp only [inK]; omega)) ?_
                  refine o_val rfl rfl rfl (y_move (v := (.int _ _)) rfl) ?_
                  refine o_nil ?_
                  exact ⟨LW8.mk (g.i + 1) (g.gs ++ [k3]) A239 c240 E241 (g.its ++ [(IR.mk ((g.i : Nat) : Int) ((g.gs ++ [k3]).getD ((g.i : Nat) : Int).toNat 0) cB cs.length cc cs)]) A278 c279 E280 (cE ++ (cP ++ g.P)) cS, (by first | omega | (dsimp only; omega)), ⟨by dsimp only; omega, by simp only [List.length_append, List.length_singleton]; omega, gens_snoc hgg ⟨hk30, hk31 (by decide)⟩, by dsimp only; rw [List.length_append]; exact ho244, by dsimp only; rw [List.length_append]; exact ho283, all_snoc (fun x hx => ((hii x hx).sub inG_right).sub inG_right) ⟨rfl, hco.2.1, by dsimp only; omega, hco.mem.ms inG_left, fun y hy => ((hcx y hy).sub inG_left).sub inG_right⟩, items_snoc (items_more hip) ⟨(show lastI g.its g.its.length < ((g.i : Nat) : Int) from lastI_lt hie (by omega)), by simp only [List.length_append, List.length_singleton]; omega, rfl, by dsimp only; rw [getD_snoc (by omega), if_pos (by omega)]; omega, hch⟩, all_snoc (fun x hx => by have := hie x hx; dsimp only; omega) (by dsimp only; omega), by simp only [List.length_append, List.length_singleton]; omega, by simp only [List.length_append, List.length_singleton]; omega, hst1⟩, ⟨(congrArg (Value.int .i64) (by (try dsimp only); omega)), rfl, rfl, rfl, rfl, trivial⟩, (by dsimp only; rw [List.length_append, List.length_append]; exact sub_picks [1, 1, 2, 1, 0, 0, 0, 0] rfl)⟩
                · refine o_fn 1 (d := 45) rfl Try.call92 (GenC_c hst1 MSub.ext kB kx.length kc kx ⟨rfl, hko.2.1, by omega, (hko.cels (j := 4) rfl).down, fun x hx => (hkx x hx).sub (inG_ext (j := 5) rfl)⟩ hck) rfl ?_
                  rintro _ _ ⟨cB, cc, cE, cP, cS, cs, rfl, hco, hcx, hch, hc16, hst1, rfl⟩
                  refine o_nil ?_
                  refine d_val (i := 13) rfl (by kernel_rfl) (by kernel_rfl) (by kernel_rfl) rfl rfl rfl (y_build (vs := [(0, .agg #[.int _ _, .int _ _]), (1, .slice _ _ _)]) rfl (GenW_k4 _ _ _ _ _)) ?_
                  refine d_eff2 (k := 1) (k' := 14) (n := 5) (m := 6) rfl rfl (by kernel_rfl) rfl ?_ ?_
                  · refine o_val rfl rfl rfl (y_load Try.isAgg45 rfl (cel_own 3 rfl rfl)) ?_
                    refine o_nil ?_
                    refine d_eff (k := 14) (n := 5) (m := 6) rfl (by kernel_rfl) rfl ?_
                    refine o_lit (vs := [(0, .agg #[.int _ _, .int _ _, .slice _ _ _])]) rfl rfl (GenW_k5 _ _ _ _ _) (fun b284 => ?_)
                    refine o_nil ?_
                    refine d_eff (k := 15) (n := 5) (m := 6) rfl (by kernel_rfl) rfl ?_
                    refine o_append (sz := 3) (bytes := 40) (news := [(.int _ _), (.int _ _), (.slice _ _ _)]) 4 rfl Try.underlying45 Try.type136 rfl rfl rfl rfl rfl hio rfl rfl (Src.slice Try.underlying45 (cels_own 11 rfl rfl) rfl (by simp [Value.oneCell']) (by simp)) (by omega) (fun A285 c286 E287 ho288 hn289 => ?_)
                    have ho290 : OS A285 (g.its.length + 1) c286 136 3 ((g.its ++ [(IR.mk ((g.i : Nat) : Int) ((g.gs ++ [k3]).getD ((g.i : Nat) : Int).toNat 0) cB cs.length cc cs)]).flatMap encIt) E287 := os_snoc ho288 rfl
                    clear ho288
                    refine o_nil ?_
                    refine d_val (i := 16) rfl (by kernel_rfl) (by kernel_rfl) (by kernel_rfl) rfl rfl rfl (y_field0 Try.runUnderlying47 rfl Try.sizeOf45 rfl rfl) ?_
                    refine d_eff (k := 17) (n := 5) (m := 6) rfl (by kernel_rfl) rfl ?_
                    refine o_store (v := (.slice _ _ _)) 3 rfl Try.sizeOf45 rfl rfl rfl rfl ?_
                    refine o_nil ?_
                    refine d_nil (n := 5) (m := 6) (by kernel_rfl) rfl ?_
                    refine s_norm [_, _, _, [(_, .cells [(.slice _ _ _), (.slice _ _ _), (.slice _ _ _)].toArray 47 (0, 0))], _, _, _, _, _, [(_, .cells [(.slice _ _ _), (.slice _ _ _), (.slice _ _ _)].toArray 47 (0, 0))], [(_, .cells [(.int _ _)].toArray 3 (0, 0))], [(_, .cells [(.int _ _), (.int _ _), (.slice _ _ _)].toArray 136 (0, 0))]] rfl ?_
                    refine s_forget [(2, (.pointer _)), (3, (.pointer _)), (4, (.pointer _)), (13, (.int _ _)), (14, (.int _ _))] ⟨rfl, rfl, rfl, rfl, rfl, trivial⟩ (fun _f => ?_)
                    refine s_region ?_
                    refine o_pull 6 ?_
                    refine o_pull 3 ?_
                    refine o_fuse ?_
                    refine o_pull 2 ?_
                    refine o_fuse ?_
                    refine o_val rfl rfl rfl (y_add rfl rfl (by simp only [inK]; omega)) ?_
                    refine o_val rfl rfl rfl (y_move (v := (.int _ _)) rfl) ?_
                    refine o_nil ?_
                    exact ⟨LW8.mk (g.i + 1) (g.gs ++ [k3]) A239 c240 E241 (g.its ++ [(IR.mk ((g.i : Nat) : Int) ((g.gs ++ [k3]).getD ((g.i : Nat) : Int).toNat 0) cB cs.length cc cs)]) A285 c286 E287 (cE ++ (cP ++ g.P)) cS, (by first | omega | (dsimp only; omega)), ⟨by dsimp only; omega, by simp only [List.length_append, List.length_singleton]; omega, gens_snoc hgg ⟨hk30, hk31 (by decide)⟩, by dsimp only; rw [List.length_append]; exact ho244, by dsimp only; rw [List.length_append]; exact ho290, all_snoc (fun x hx => ((hii x hx).sub inG_right).sub inG_right) ⟨rfl, hco.2.1, by dsimp only; omega, hco.mem.ms inG_left, fun y hy => ((hcx y hy).sub inG_left).sub inG_right⟩, items_snoc (items_more hip) ⟨(show lastI g.its g.its.length < ((g.i : Nat) : Int) from lastI_lt hie (by omega)), by simp only [List.length_append, List.length_singleton]; omega, rfl, by dsimp only; rw [getD_snoc (by omega), if_pos (by omega)]; omega, hch⟩, all_snoc (fun x hx => by have := hie x hx; dsimp only; omega) (by dsimp only; omega), by simp only [List.length_append, List.length_singleton]; omega, by simp only [List.length_append, List.length_singleton]; omega, hst1⟩, ⟨(congrArg (Value.int .i64) (by (try dsimp only); omega)), rfl, rfl, rfl, rfl, trivial⟩, (by dsimp only; rw [List.length_append, List.length_append]; exact sub_picks [1, 1, 2, 1, 0, 0, 0, 0] rfl)⟩
                  · refine o_lit (vs := [(0, .agg #[.int _ _, .int _ _, .slice _ _ _])]) rfl rfl (GenW_k5 _ _ _ _ _) (fun b291 => ?_)
                    refine o_nil ?_
                    refine d_now (i := 1) [] rfl (by kernel_rfl) (by kernel_rfl) (by kernel_rfl) rfl rfl rfl (y_load Try.isAgg45 rfl (cel_own 3 rfl rfl)) trivial ?_
                    refine d_eff (k := 15) (n := 5) (m := 6) rfl (by kernel_rfl) rfl ?_
                    refine o_append (sz := 3) (bytes := 40) (news := [(.int _ _), (.int _ _), (.slice _ _ _)]) 4 rfl Try.underlying45 Try.type136 rfl rfl rfl rfl rfl hio rfl rfl (Src.slice Try.underlying45 (cels_own 11 rfl rfl) rfl (by simp [Value.oneCell']) (by simp)) (by omega) (fun A292 c293 E294 ho295 hn296 => ?_)
                    have ho297 : OS A292 (g.its.length + 1) c293 136 3 ((g.its ++ [(IR.mk ((g.i : Nat) : Int) ((g.gs ++ [k3]).getD ((g.i : Nat) : Int).toNat 0) cB cs.length cc cs)]).flatMap encIt) E294 := os_snoc ho295 rfl
                    clear ho295
                    refine o_nil ?_
                    refine d_val (i := 16) rfl (by kernel_rfl) (by kernel_rfl) (by kernel_rfl) rfl rfl rfl (y_field0 Try.runUnderlying47 rfl Try.sizeOf45 rfl rfl) ?_
                    refine d_eff (k := 17) (n := 5) (m := 6) rfl (by kernel_rfl) rfl ?_
                    refine o_store (v := (.slice _ _ _)) 3 rfl Try.sizeOf45 rfl rfl rfl rfl ?_
                    refine o_nil ?_
                    refine d_nil (n := 5) (m := 6) (by kernel_rfl) rfl ?_
                    refine s_norm [_, _, _, [(_, .cells [(.slice _ _ _), (.slice _ _ _), (.slice _ _ _)].toArray 47 (0, 0))], _, _, _, _, _, [(_, .cells [(.slice _ _ _), (.slice _ _ _), (.slice _ _ _)].toArray 47 (0, 0))], [(_, .cells [(.int _ _)].toArray 3 (0, 0))], [(_, .cells [(.int _ _), (.int _ _), (.slice _ _ _)].toArray 136 (0, 0))]] rfl ?_
                    refine s_forget [(2, (.pointer _)), (3, (.pointer _)), (4, (.pointer _)), (13, (.int _ _)), (14, (.int _ _))] ⟨rfl, rfl, rfl, rfl, rfl, trivial⟩ (fun _f => ?_)
                    refine s_region ?_
                    refine o_pull 6 ?_
                    refine o_pull 3 ?_
                    refine o_fuse ?_
                    refine o_pull 2 ?_
                    refine o_fuse ?_
                    refine o_val rfl rfl rfl (y_add rfl rfl (by simp only [inK]; omega)) ?_
                    refine o_val rfl rfl rfl (y_move (v := (.int _ _)) rfl) ?_
                    refine o_nil ?_
                    exact ⟨LW8.mk (g.i + 1) (g.gs ++ [k3]) A239 c240 E241 (g.its ++ [(IR.mk ((g.i : Nat) : Int) ((g.gs ++ [k3]).getD ((g.i : Nat) : Int).toNat 0) cB cs.length cc cs)]) A292 c293 E294 (cE ++ (cP ++ g.P)) cS, (by first | omega | (dsimp only; omega)), ⟨by dsimp only; omega, by simp only [List.length_append, List.length_singleton]; omega, gens_snoc hgg ⟨hk30, hk31 (by decide)⟩, by dsimp only; rw [List.length_append]; exact ho244, by dsimp only; rw [List.length_append]; exact ho297, all_snoc (fun x hx => ((hii x hx).sub inG_right).sub inG_right) ⟨rfl, hco.2.1, by dsimp only; omega, hco.mem.ms inG_left, fun y hy => ((hcx y hy).sub inG_left).sub inG_right⟩, items_snoc (items_more hip) ⟨(show lastI g.its g.its.length < ((g.i : Nat) : Int) from lastI_lt hie (by omega)), by simp only [List.length_append, List.length_singleton]; omega, rfl, by dsimp only; rw [getD_snoc (by omega), if_pos (by omega)]; omega, hch⟩, all_snoc (fun x hx => by have := hie x hx; dsimp only; omega) (by dsimp only; omega), by simp only [List.length_append, List.length_singleton]; omega, by simp only [List.length_append, List.length_singleton]; omega, hst1⟩, ⟨(congrArg (Value.int .i64) (by (try dsimp only); omega)), rfl, rfl, rfl, rfl, trivial⟩, (by dsimp only; rw [List.length_append, List.length_append]; exact sub_picks [1, 1, 2, 1, 0, 0, 0, 0] rfl)⟩
            · refine o_val rfl rfl rfl (y_load Try.isAgg23 rfl (cel_own 1 rfl rfl)) ?_
              refine o_nil ?_
              refine d_eff3 (k := 1) (k' := 4) (k'' := 12) (n := 3) (m := 6) rfl rfl rfl (by kernel_rfl) rfl ?_ ?_ ?_
              · refine o_val rfl rfl rfl (y_load Try.isAgg45 rfl (cel_own 1 rfl rfl)) ?_
                refine o_nil ?_
                refine d_eff2 (k := 4) (k' := 12) (n := 3) (m := 6) rfl rfl (by kernel_rfl) rfl ?_ ?_
                · refine o_val rfl rfl rfl (y_load Try.isAgg22 rfl (cel_own 1 rfl rfl)) ?_
                  refine o_nil ?_
                  refine d_val (i := 6) rfl (by kernel_rfl) (by kernel_rfl) (by kernel_rfl) rfl rfl rfl (y_index1 Try.runUnderlying22 Try.sizeOf3 (ho244.some_of (by omega)) rfl rfl (by omega)) ?_
                  refine d_val (i := 7) rfl (by kernel_rfl) (by kernel_rfl) (by kernel_rfl) rfl rfl rfl (y_load Try.isAgg3 rfl (cel_int (ho244.cels (j := 0) rfl) (by simp only [List.length_append, List.length_singleton]; omega))) ?_
                  refine d_val (i := 8) rfl (by kernel_rfl) (by kernel_rfl) (by kernel_rfl) rfl rfl rfl (y_build (vs := [(0, .int _ _), (1, .int _ _)]) rfl (GenW_k3 _ _)) ?_
                  refine d_eff (k := 12) (n := 3) (m := 6) rfl (by kernel_rfl) rfl ?_
                  refine o_fn 1 (d := 45) rfl Try.call92 (GenC_c hst1 MSub.ext kB kx.length kc kx ⟨rfl, hko.2.1, by omega, (hko.cels (j := 4) rfl).down, fun x hx => (hkx x hx).sub (inG_ext (j := 5) rfl)⟩ hck) rfl ?_
                  rintro _ _ ⟨cB, cc, cE, cP, cS, cs, rfl, hco, hcx, hch, hc16, hst1, rfl⟩
                  refine o_nil ?_
                  refine d_val (i := 13) rfl (by kernel_rfl) (by kernel_rfl) (by kernel_rfl) rfl rfl rfl (y_build (vs := [(0, .agg #[.int _ _, .int _ _]), (1, .slice _ _ _)]) rfl (GenW_k4 _ _ _ _ _)) ?_
                  refine d_eff (k := 14) (n := 5) (m := 6) rfl (by kernel_rfl) rfl ?_
                  refine o_lit (vs := [(0, .agg #[.int _ _, .int _ _, .slice _ _ _])]) rfl rfl (GenW_k5 _ _ _ _ _) (fun b298 => ?_)
                  refine o_nil ?_
                  refine d_eff (k := 15) (n := 5) (m := 6) rfl (by kernel_rfl) rfl ?_
                  refine o_append (sz := 3) (bytes := 40) (news := [(.int _ _), (.int _ _), (.slice _ _ _)]) 4 rfl Try.underlying45 Try.type136 rfl rfl rfl rfl rfl hio rfl rfl (Src.slice Try.underlying45 (cels_own 11 rfl rfl) rfl (by simp [Value.oneCell']) (by simp)) (by omega) (fun A299 c300 E301 ho302 hn303 => ?_)
                  have ho304 : OS A299 (g.its.length + 1) c300 136 3 ((g.its ++ [(IR.mk ((g.i : Nat) : Int) ((g.gs ++ [k3]).getD ((g.i : Nat) : Int).toNat 0) cB cs.length cc cs)]).flatMap encIt) E301 := os_snoc ho302 rfl
                  clear ho302
                  refine o_nil ?_
                  refine d_val (i := 16) rfl (by kernel_rfl) (by kernel_rfl) (by kernel_rfl) rfl rfl rfl (y_field0 Try.runUnderlying47 rfl Try.sizeOf45 rfl rfl) ?_
                  refine d_eff (k := 17) (n := 5) (m := 6) rfl (by kernel_rfl) rfl ?_
                  refine o_store (v := (.slice _ _ _)) 3 rfl Try.sizeOf45 rfl rfl rfl rfl ?_
                  refine o_nil ?_
                  refine d_nil (n := 5) (m := 6) (by kernel_rfl) rfl ?_
                  refine s_norm [_, _, _, [(_, .cells [(.slice _ _ _), (.slice _ _ _), (.slice _ _ _)].toArray 47 (0, 0))], _, _, _, _, _, [(_, .cells [(.slice _ _ _), (.slice _ _ _), (.slice _ _ _)].toArray 47 (0, 0))], [(_, .cells [(.int _ _)].toArray 3 (0, 0))], [(_, .cells [(.int _ _), (.int _ _), (.slice _ _ _)].toArray 136 (0, 0))]] rfl ?_
                  refine s_forget [(2, (.pointer _)), (3, (.pointer _)), (4, (.pointer _)), (13, (.int _ _)), (14, (.int _ _))] ⟨rfl, rfl, rfl, rfl, rfl, trivial⟩ (fun _f => ?_)
                  refine s_region ?_
                  refine o_pull 6 ?_
                  refine o_pull 3 ?_
                  refine o_fuse ?_
                  refine o_pull 2 ?_
                  refine o_fuse ?_
                  refine o_val rfl rfl rfl (y_add rfl rfl (by simp only [inK]; omega)) ?_
                  refine o_val rfl rfl rfl (y_move (v := (.int _ _)) rfl) ?_
                  refine o_nil ?_
                  exact ⟨LW8.mk (g.i + 1) (g.gs ++ [k3]) A239 c240 E241 (g.its ++ [(IR.mk ((g.i : Nat) : Int) ((g.gs ++ [k3]).getD ((g.i : Nat) : Int).toNat 0) cB cs.length cc cs)]) A299 c300 E301 (cE ++ (cP ++ g.P)) cS, (by first | omega | (dsimp only; omega)), ⟨by dsimp only; omega, by simp only [List.length_append, List.length_singleton]; omega, gens_snoc hgg ⟨hk30, hk31 (by decide)⟩, by dsimp only; rw [List.length_append]; exact ho244, by dsimp only; rw [List.length_append]; exact ho304, all_snoc (fun x hx => ((hii x hx).sub inG_right).sub inG_right) ⟨rfl, hco.2.1, by dsimp only; omega, hco.mem.ms inG_left, fun y hy => ((hcx y hy).sub inG_left).sub inG_right⟩, items_snoc (items_more hip) ⟨(show lastI g.its g.its.length < ((g.i : Nat) : Int) from lastI_lt hie (by omega)), by simp only [List.length_append, List.length_singleton]; omega, rfl, by dsimp only; rw [getD_snoc (by omega), if_pos (by omega)]; omega, hch⟩, all_snoc (fun x hx => by have := hie x hx; dsimp only; omega) (by dsimp only; omega), by simp only [List.length_append, List.length_singleton]; omega, by simp only [List.length_append, List.length_singleton]; omega, hst1⟩, ⟨(congrArg (Value.int .i64) (by (try dsimp only); omega)), rfl, rfl, rfl, rfl, trivial⟩, (by dsimp only; rw [List.length_append, List.length_append]; exact sub_picks [1, 1, 2, 1, 0, 0, 0, 0] rfl)⟩
                · refine o_fn 1 (d := 45) rfl Try.call92 (GenC_c hst1 MSub.ext kB kx.length kc kx ⟨rfl, hko.2.1, by omega, (hko.cels (j := 4) rfl).down, fun x hx => (hkx x hx).sub (inG_ext (j := 5) rfl)⟩ hck) rfl ?_
                  rintro _ _ ⟨cB, cc, cE, cP, cS, cs, rfl, hco, hcx, hch, hc16, hst1, rfl⟩
                  refine o_nil ?_
                  refine d_now (i := 4) [] rfl (by kernel_rfl) (by kernel_rfl) (by kernel_rfl) rfl rfl rfl (y_load Try.isAgg22 rfl (cel_own 3 rfl rfl)) trivial ?_
                  refine d_val (i := 6) rfl (by kernel_rfl) (by kernel_rfl) (by kernel_rfl) rfl rfl rfl (y_index1 Try.runUnderlying22 Try.sizeOf3 (ho244.some_of (by omega)) rfl rfl (by omega)) ?_
                  refine d_val (i := 7) rfl (by kernel_rfl) (by kernel_rfl) (by kernel_rfl) rfl rfl rfl (y_load Try.isAgg3 rfl (cel_int (ho244.cels (j := 0) rfl) (by simp only [List.length_append, List.length_singleton]; omega))) ?_
                  refine d_val (i := 8) rfl (by kernel_rfl) (by kernel_rfl) (by kernel_rfl) rfl rfl rfl (y_build (vs := [(0, .int _ _), (1, .int _ _)]) rfl (GenW_k3 _ _)) ?_
                  refine d_val (i := 13) rfl (by kernel_rfl) (by kernel_rfl) (by kernel_rfl) rfl rfl rfl (y_build (vs := [(0, .agg #[.int _ _, .int _ _]), (1, .slice _ _ _)]) rfl (GenW_k4 _ _ _ _ _)) ?_
                  refine d_eff (k := 14) (n := 5) (m := 6) rfl (by kernel_rfl) rfl ?_
                  refine o_lit (vs := [(0, .agg #[.int _ _, .int _ _, .slice _ _ _])]) rfl rfl (GenW_k5 _ _ _ _ _) (fun b305 => ?_)
                  refine o_nil ?_
                  refine d_eff (k := 15) (n := 5) (m := 6) rfl (by kernel_rfl) rfl ?_
                  refine o_append (sz := 3) (bytes := 40) (news := [(.int _ _), (.int _ _), (.slice _ _ _)]) 4 rfl Try.underlying45 Try.type136 rfl rfl rfl rfl rfl hio rfl rfl (Src.slice Try.underlying45 (cels_own 11 rfl rfl) rfl (by simp [Value.oneCell']) (by simp)) (by omega) (fun A306 c307 E308 ho309 hn310 => ?_)
                  have ho311 : OS A306 (g.its.length + 1) c307 136 3 ((g.its ++ [(IR.mk ((g.i : Nat) : Int) ((g.gs ++ [k3]).getD ((g.i : Nat) : Int).toNat 0) cB cs.length cc cs)]).flatMap encIt) E308 := os_snoc ho309 rfl
                  clear ho309
                  refine o_nil ?_
                  refine d_val (i := 16) rfl (by kernel_rfl) (by kernel_rfl) (by kernel_rfl) rfl rfl rfl (y_field0 Try.runUnderlying47 rfl Try.sizeOf45 rfl rfl) ?_
                  refine d_eff (k := 17) (n := 5) (m := 6) rfl (by kernel_rfl) rfl ?_
                  refine o_store (v := (.slice _ _ _)) 3 rfl Try.sizeOf45 rfl rfl rfl rfl ?_
                  refine o_nil ?_
                  refine d_nil (n := 5) (m := 6) (by kernel_rfl) rfl ?_
                  refine s_norm [_, _, _, [(_, .cells [(.slice _ _ _), (.slice _ _ _), (.slice _ _ _)].toArray 47 (0, 0))], _, _, _, _, _, [(_, .cells [(.slice _ _ _), (.slice _ _ _), (.slice _ _ _)].toArray 47 (0, 0))], [(_, .cells [(.int _ _)].toArray 3 (0, 0))], [(_, .cells [(.int _ _), (.int _ _), (.slice _ _ _)].toArray 136 (0, 0))]] rfl ?_
                  refine s_forget [(2, (.pointer _)), (3, (.pointer _)), (4, (.pointer _)), (13, (.int _ _)), (14, (.int _ _))] ⟨rfl, rfl, rfl, rfl, rfl, trivial⟩ (fun _f => ?_)
                  refine s_region ?_
                  refine o_pull 6 ?_
                  refine o_pull 3 ?_
                  refine o_fuse ?_
                  refine o_pull 2 ?_
                  refine o_fuse ?_
                  refine o_val rfl rfl rfl (y_add rfl rfl (by simp only [inK]; omega)) ?_
                  refine o_val rfl rfl rfl (y_move (v := (.int _ _)) rfl) ?_
                  refine o_nil ?_
                  exact ⟨LW8.mk (g.i + 1) (g.gs ++ [k3]) A239 c240 E241 (g.its ++ [(IR.mk ((g.i : Nat) : Int) ((g.gs ++ [k3]).getD ((g.i : Nat) : Int).toNat 0) cB cs.length cc cs)]) A306 c307 E308 (cE ++ (cP ++ g.P)) cS, (by first | omega | (dsimp only; omega)), ⟨by dsimp only; omega, by simp only [List.length_append, List.length_singleton]; omega, gens_snoc hgg ⟨hk30, hk31 (by decide)⟩, by dsimp only; rw [List.length_append]; exact ho244, by dsimp only; rw [List.length_append]; exact ho311, all_snoc (fun x hx => ((hii x hx).sub inG_right).sub inG_right) ⟨rfl, hco.2.1, by dsimp only; omega, hco.mem.ms inG_left, fun y hy => ((hcx y hy).sub inG_left).sub inG_right⟩, items_snoc (items_more hip) ⟨(show lastI g.its g.its.length < ((g.i : Nat) : Int) from lastI_lt hie (by omega)), by simp only [List.length_append, List.length_singleton]; omega, rfl, by dsimp only; rw [getD_snoc (by omega), if_pos (by omega)]; omega, hch⟩, all_snoc (fun x hx => by have := hie x hx; dsimp only; omega) (by dsimp only; omega), by simp only [List.length_append, List.length_singleton]; omega, by simp only [List.length_append, List.length_singleton]; omega, hst1⟩, ⟨(congrArg (Value.int .i64) (by (try dsimp only); omega)), rfl, rfl, rfl, rfl, trivial⟩, (by dsimp only; rw [List.length_append, List.length_append]; exact sub_picks [1, 1, 2, 1, 0, 0, 0, 0] rfl)⟩
              · refine o_val rfl rfl rfl (y_load Try.isAgg22 rfl (cel_own 1 rfl rfl)) ?_
                refine o_nil ?_
                refine d_val (i := 6) rfl (by kernel_rfl) (by kernel_rfl) (by kernel_rfl) rfl rfl rfl (y_index1 Try.runUnderlying22 Try.sizeOf3 (ho244.some_of (by omega)) rfl rfl (by omega)) ?_
                refine d_val (i := 7) rfl (by kernel_rfl) (by kernel_rfl) (by kernel_rfl) rfl rfl rfl (y_load Try.isAgg3 rfl (cel_int (ho244.cels (j := 0) rfl) (by simp only [List.length_append, List.length_singleton]; omega))) ?_
                refine d_val (i := 8) rfl (by kernel_rfl) (by kernel_rfl) (by kernel_rfl) rfl rfl rfl (y_build (vs := [(0, .int _ _), (1, .int _ _)]) rfl (GenW_k3 _ _)) ?_
                refine d_eff2 (k := 1) (k' := 12) (n := 3) (m := 6) rfl rfl (by kernel_rfl) rfl ?_ ?_
                · refine o_val rfl rfl rfl (y_load Try.isAgg45 rfl (cel_own 1 rfl rfl)) ?_
                  refine o_nil ?_
                  refine d_eff (k := 12) (n := 3) (m := 6) rfl (by kernel_rfl) rfl ?_
                  refine o_fn 1 (d := 45) rfl Try.call92 (GenC_c hst1 MSub.ext kB kx.length kc kx ⟨rfl, hko.2.1, by omega, (hko.cels (j := 4) rfl).down, fun x hx => (hkx x hx).sub (inG_ext (j := 5) rfl)⟩ hck) rfl ?_
                  rintro _ _ ⟨cB, cc, cE, cP, cS, cs, rfl, hco, hcx, hch, hc16, hst1, rfl⟩
                  refine o_nil ?_
                  refine d_val (i := 13) rfl (by kernel_rfl) (by kernel_rfl) (by kernel_rfl) rfl rfl rfl (y_build (vs := [(0, .agg #[.int _ _, .int _ _]), (1, .slice _ _ _)]) rfl (GenW_k4 _ _ _ _ _)) ?_
                  refine d_eff (k := 14) (n := 5) (m := 6) rfl (by kernel_rfl) rfl ?_
                  refine o_lit (vs := [(0, .agg #[.int _ _, .int _ _, .slice _ _ _])]) rfl rfl (GenW_k5 _ _ _ _ _) (fun b312 => ?_)
                  refine o_nil ?_
                  refine d_eff (k := 15) (n := 5) (m := 6) rfl (by kernel_rfl) rfl ?_
                  refine o_append (sz := 3) (bytes := 40) (news := [(.int _ _), (.int _ _), (.slice _ _ _)]) 4 rfl Try.underlying45 Try.type136 rfl rfl rfl rfl rfl hio rfl rfl (Src.slice Try.underlying45 (cels_own 11 rfl rfl) rfl (by simp [Value.oneCell']) (by simp)) (by omega) (fun A313 c314 E315 ho316 hn317 => ?_)
                  have ho318 : OS A313 (g.its.length + 1) c314 136 3 ((g.its ++ [(IR.mk ((g.i : Nat) : Int) ((g.gs ++ [k3]).getD ((g.i : Nat) : Int).toNat 0) cB cs.length cc cs)]).flatMap encIt) E315 := os_snoc ho316 rfl
                  clear ho316
                  refine o_nil ?_
                  refine d_val (i := 16) rfl (by kernel_rfl) (by kernel_rfl) (by kernel_rfl) rfl rfl rfl (y_field0 Try.runUnderlying47 rfl Try.sizeOf45 rfl rfl) ?_
                  refine d_eff (k := 17) (n := 5) (m := 6) rfl (by kernel_rfl) rfl ?_
                  refine o_store (v := (.slice _ _ _)) 3 rfl Try.sizeOf45 rfl rfl rfl rfl ?_
                  refine o_nil ?_
                  refine d_nil (n := 5) (m := 6) (by kernel_rfl) rfl ?_
                  refine s_norm [_, _, _, [(_, .cells [(.slice _ _ _), (.slice _ _ _), (.slice _ _ _)].toArray 47 (0, 0))], _, _, _, _, _, [(_, .cells [(.slice _ _ _), (.slice _ _ _), (.slice _ _ _)].toArray 47 (0, 0))], [(_, .cells [(.int _ _)].toArray 3 (0, 0))], [(_, .cells [(.int _ _), (.int _ _), (.slice _ _ _)].toArray 136 (0, 0))]] rfl ?_
                  refine s_forget [(2, (.pointer _)), (3, (.pointer _)), (4, (.pointer _)), (13, (.int _ _)), (14, (.int _ _))] ⟨rfl, rfl, rfl, rfl, rfl, trivial⟩ (fun _f => ?_)
                  refine s_region ?_
                  refine o_pull 6 ?_
                  refine o_pull 3 ?_
                  refine o_fuse ?_
                  refine o_pull 2 ?_
                  refine o_fuse ?_
                  refine o_val rfl rfl rfl (y_add rfl rfl (by simp only [inK]; omega)) ?_
                  refine o_val rfl rfl rfl (y_move (v := (.int _ _)) rfl) ?_
                  refine o_nil ?_
                  exact ⟨LW8.mk (g.i + 1) (g.gs ++ [k3]) A239 c240 E241 (g.its ++ [(IR.mk ((g.i : Nat) : Int) ((g.gs ++ [k3]).getD ((g.i : Nat) : Int).toNat 0) cB cs.length cc cs)]) A313 c314 E315 (cE ++ (cP ++ g.P)) cS, (by first | omega | (dsimp only; omega)), ⟨by dsimp only; omega, by simp only [List.length_append, List.length_singleton]; omega, gens_snoc hgg ⟨hk30, hk31 (by decide)⟩, by dsimp only; rw [List.length_append]; exact ho244, by dsimp only; rw [List.length_append]; exact ho318, all_snoc (fun x hx => ((hii x hx).sub inG_right).sub inG_right) ⟨rfl, hco.2.1, by dsimp only; omega, hco.mem.ms inG_left, fun y hy => ((hcx y hy).sub inG_left).sub inG_right⟩, items_snoc (items_more hip) ⟨(show lastI g.its g.its.length < ((g.i : Nat) : Int) from lastI_lt hie (by omega)), by simp only [List.length_append, List.length_singleton]; omega, rfl, by dsimp only; rw [getD_snoc (by omega), if_pos (by omega)]; omega, hch⟩, all_snoc (fun x hx => by have := hie x hx; dsimp only; omega) (by dsimp only; omega), by simp only [List.length_append, List.length_singleton]; omega, by simp only [List.length_append, List.length_singleton]; omega, hst1⟩, ⟨(congrArg (Value.int .i64) (by (try dsimp only); omega)), rfl, rfl, rfl, rfl, trivial⟩, (by dsimp only; rw [List.length_append, List.length_append]; exact sub_picks [1, 1, 2, 1, 0, 0, 0, 0] rfl)⟩
                · refine o_fn 1 (d := 45) rfl Try.call92 (GenC_c hst1 MSub.ext kB kx.length kc kx ⟨rfl, hko.2.1, by omega, (hko.cels (j := 4) rfl).down, fun x hx => (hkx x hx).sub (inG_ext (j := 5) rfl)⟩ hck) rfl ?_
                  rintro _ _ ⟨cB, cc, cE, cP, cS, cs, rfl, hco, hcx, hch, hc16, hst1, rfl⟩
                  refine o_nil ?_
                  refine d_val (i := 13) rfl (by kernel_rfl) (by kernel_rfl) (by kernel_rfl) rfl rfl rfl (y_build (vs := [(0, .agg #[.int _ _, .int _ _]), (1, .slice _ _ _)]) rfl (GenW_k4 _ _ _ _ _)) ?_
                  refine d_eff2 (k := 1) (k' := 14) (n := 5) (m := 6) rfl rfl (by kernel_rfl) rfl ?_ ?_
                  · refine o_val rfl rfl rfl (y_load Try.isAgg45 rfl (cel_own 3 rfl rfl)) ?_
                    refine o_nil ?_
                    refine d_eff (k := 14) (n := 5) (m := 6) rfl (by kernel_rfl) rfl ?_
                    refine o_lit (vs := [(0, .agg #[.int _ _, .int _ _, .slice _ _ _])]) rfl rfl (GenW_k5 _ _ _ _ _) (fun b319 => ?_)
                    refine o_nil ?_
                    refine d_eff (k := 15) (n := 5) (m := 6) rfl (by kernel_rfl) rfl ?_
                    refine o_append (sz := 3) (bytes := 40) (news := [(.int _ _), (.int _ _), (.slice _ _ _)]) 4 rfl Try.underlying45 Try.type136 rfl rfl rfl rfl rfl hio rfl rfl (Src.slice Try.underlying45 (cels_own 11 rfl rfl) rfl (by simp [Value.oneCell']) (by simp)) (by omega) (fun A320 c321 E322 ho323 hn324 => ?_)
                    have ho325 : OS A320 (g.its.length + 1) c321 136 3 ((g.its ++ [(IR.mk ((g.i : Nat) : Int) ((g.gs ++ [k3]).getD ((g.i : Nat) : Int).toNat 0) cB cs.length cc cs)]).flatMap encIt) E322 := os_snoc ho323 rfl
                    clear ho323
                    refine o_nil ?_
                    refine d_val (i := 16) rfl (by kernel_rfl) (by kernel_rfl) (by kernel_rfl) rfl rfl rfl (y_field0 Try.runUnderlying47 rfl Try.sizeOf45 rfl rfl) ?_
                    refine d_eff (k := 17) (n := 5) (m := 6) rfl (by kernel_rfl) rfl ?_
                    refine o_store (v := (.slice _ _ _)) 3 rfl Try.sizeOf45 rfl rfl rfl rfl ?_
                    refine o_nil ?_
                    refine d_nil (n := 5) (m := 6) (by kernel_rfl) rfl ?_
                    refine s_norm [_, _, _, [(_, .cells [(.slice _ _ _), (.slice _ _ _), (.slice _ _ _)].toArray 47 (0, 0))], _, _, _, _, _, [(_, .cells [(.slice _ _ _), (.slice _ _ _), (.slice _ _ _)].toArray 47 (0, 0))], [(_, .cells [(.int _ _)].toArray 3 (0, 0))], [(_, .cells [(.int _ _), (.int _ _), (.slice _ _ _)].toArray 136 (0, 0))]] rfl ?_
                    refine s_forget [(2, (.pointer _)), (3, (.pointer _)), (4, (.pointer _)), (13, (.int _ _)), (14, (.int _ _))] ⟨rfl, rfl, rfl, rfl, rfl, trivial⟩ (fun _f => ?_)
                    refine s_region ?_
                    refine o_pull 6 ?_
                    refine o_pull 3 ?_
                    refine o_fuse ?_
                    refine o_pull 2 ?_
                    refine o_fuse ?_
                    refine o_val rfl rfl rfl (y_add rfl rfl (by simp only [inK]; omega)) ?_
                    refine o_val rfl rfl rfl (y_move (v := (.int _ _)) rfl) ?_
                    refine o_nil ?_
                    exact ⟨LW8.mk (g.i + 1) (g.gs ++ [k3]) A239 c240 E241 (g.its ++ [(IR.mk ((g.i : Nat) : Int) ((g.gs ++ [k3]).getD ((g.i : Nat) : Int).toNat 0) cB cs.length cc cs)]) A320 c321 E322 (cE ++ (cP ++ g.P)) cS, (by first | omega | (dsimp only; omega)), ⟨by dsimp only; omega, by simp only [List.length_append, List.length_singleton]; omega, gens_snoc hgg ⟨hk30, hk31 (by decide)⟩, by dsimp only; rw [List.length_append]; exact ho244, by dsimp only; rw [List.length_append]; exact ho325, all_snoc (fun x hx => ((hii x hx).sub inG_right).sub inG_right) ⟨rfl, hco.2.1, by dsimp only; omega, hco.mem.ms inG_left, fun y hy => ((hcx y hy).sub inG_left).sub inG_right⟩, items_snoc (items_more hip) ⟨(show lastI g.its g.its.length < ((g.i : Nat) : Int) from lastI_lt hie (by omega)), by simp only [List.length_append, List.length_singleton]; omega, rfl, by dsimp only; rw [getD_snoc (by omega), if_pos (by omega)]; omega, hch⟩, all_snoc (fun x hx => by have := hie x hx; dsimp only; omega) (by dsimp only; omega), by simp only [List.length_append, List.length_singleton]; omega, by simp only [List.length_append, List.length_singleton]; omega, hst1⟩, ⟨(congrArg (Value.int .i64) (by (try dsimp only); omega)), rfl, rfl, rfl, rfl, trivial⟩, (by dsimp only; rw [List.length_append, List.length_append]; exact sub_picks [1, 1, 2, 1, 0, 0, 0, 0] rfl)⟩
                  · refine o_lit (vs := [(0, .agg #[.int _ _, .int _ _, .slice _ _ _])]) rfl rfl (GenW_k5 _ _ _ _ _) (fun b326 => ?_)
                    refine o_nil ?_
                    refine d_now (i := 1) [] rfl (by kernel_rfl) (by kernel_rfl) (by kernel_rfl) rfl rfl rfl (y_load Try.isAgg45 rfl (cel_own 3 rfl rfl)) trivial ?_
                    refine d_eff (k := 15) (n := 5) (m := 6) rfl (by kernel_rfl) rfl ?_
                    refine o_append (sz := 3) (bytes := 40) (news := [(.int _ _), (.int _ _), (.slice _ _ _)]) 4 rfl Try.underlying45 Try.type136 rfl rfl rfl rfl rfl hio rfl rfl (Src.slice Try.underlying45 (cels_own 11 rfl rfl) rfl (by simp [Value.oneCell']) (by simp)) (by omega) (fun A327 c328 E329 ho330 hn331 => ?_)
                    have ho332 : OS A327 (g.its.length + 1) c328 136 3 ((g.its ++ [(IR.mk ((g.i : Nat) : Int) ((g.gs ++ [k3]).getD ((g.i : Nat) : Int).toNat 0) cB cs.length cc cs)]).flatMap encIt) E329 := os_snoc ho330 rfl
                    clear ho330
                    refine o_nil ?_
                    refine d_val (i := 16) rfl (by kernel_rfl) (by kernel_rfl) (by kernel_rfl) rfl rfl rfl (y_field0 Try.runUnderlying47 rfl Try.sizeOf45 rfl rfl) ?_
                    refine d_eff (k := 17) (n := 5) (m := 6) rfl (by kernel_rfl) rfl ?_
                    refine o_store (v := (.slice _ _ _)) 3 rfl Try.sizeOf45 rfl rfl rfl rfl ?_
                    refine o_nil ?_
                    refine d_nil (n := 5) (m := 6) (by kernel_rfl) rfl ?_
                    refine s_norm [_, _, _, [(_, .cells [(.slice _ _ _), (.slice _ _ _), (.slice _ _ _)].toArray 47 (0, 0))], _, _, _, _, _, [(_, .cells [(.slice _ _ _), (.slice _ _ _), (.slice _ _ _)].toArray 47 (0, 0))], [(_, .cells [(.int _ _)].toArray 3 (0, 0))], [(_, .cells [(.int _ _), (.int _ _), (.slice _ _ _)].toArray 136 (0, 0))]] rfl ?_
                    refine s_forget [(2, (.pointer _)), (3, (.pointer _)), (4, (.pointer _)), (13, (.int _ _)), (14, (.int _ _))] ⟨rfl, rfl, rfl, rfl, rfl, trivial⟩ (fun _f => ?_)
                    refine s_region ?_
                    refine o_pull 6 ?_
                    refine o_pull 3 ?_
                    refine o_fuse ?_
                    refine o_pull 2 ?_
                    refine o_fuse ?_
                    refine o_val rfl rfl rfl (y_add rfl rfl (by simp only [inK]; omega)) ?_
                    refine o_val rfl rfl rfl (y_move (v := (.int _ _)) rfl) ?_
                    refine o_nil ?_
                    exact ⟨LW8.mk (g.i + 1) (g.gs ++ [k3]) A239 c240 E241 (g.its ++ [(IR.mk ((g.i : Nat) : Int) ((g.gs ++ [k3]).getD ((g.i : Nat) : Int).toNat 0) cB cs.length cc cs)]) A327 c328 E329 (cE ++ (cP ++ g.P)) cS, (by first | omega | (dsimp only; omega)), ⟨by dsimp only; omega, by simp only [List.length_append, List.length_singleton]; omega, gens_snoc hgg ⟨hk30, hk31 (by decide)⟩, by dsimp only; rw [List.length_append]; exact ho244, by dsimp only; rw [List.length_append]; exact ho332, all_snoc (fun x hx => ((hii x hx).sub inG_right).sub inG_right) ⟨rfl, hco.2.1, by dsimp only; omega, hco.mem.ms inG_left, fun y hy => ((hcx y hy).sub inG_left).sub inG_right⟩, items_snoc (items_more hip) ⟨(show lastI g.its g.its.length < ((g.i : Nat) : Int) from lastI_lt hie (by omega)), by simp only [List.length_append, List.length_singleton]; omega, rfl, by dsimp only; rw [getD_snoc (by omega), if_pos (by omega)]; omega, hch⟩, all_snoc (fun x hx => by have := hie x hx; dsimp only; omega) (by dsimp only; omega), by simp only [List.length_append, List.length_singleton]; omega, by simp only [List.length_append, List.length_singleton]; omega, hst1⟩, ⟨(congrArg (Value.int .i64) (by (try dsimp only); omega)), rfl, rfl, rfl, rfl, trivial⟩, (by dsimp only; rw [List.length_append, List.length_append]; exact sub_picks [1, 1, 2, 1, 0, 0, 0, 0] rfl)⟩
              · refine o_fn 1 (d := 45) rfl Try.call92 (GenC_c hst1 MSub.ext kB kx.length kc kx ⟨rfl, hko.2.1, by omega, (hko.cels (j := 4) rfl).down, fun x hx => (hkx x hx).sub (inG_ext (j := 5) rfl)⟩ hck) rfl ?_
                rintro _ _ ⟨cB, cc, cE, cP, cS, cs, rfl, hco, hcx, hch, hc16, hst1, rfl⟩
                refine o_nil ?_
                refine d_eff2 (k := 1) (k' := 4) (n := 5) (m := 6) rfl rfl (by kernel_rfl) rfl ?_ ?_
                · refine o_val rfl rfl rfl (y_load Try.isAgg45 rfl (cel_own 3 rfl rfl)) ?_
                  refine o_nil ?_
                  refine d_now (i := 4) [] rfl (by kernel_rfl) (by kernel_rfl) (by kernel_rfl) rfl rfl rfl (y_load Try.isAgg22 rfl (cel_own 3 rfl rfl)) trivial ?_
                  refine d_val (i := 6) rfl (by kernel_rfl) (by kernel_rfl) (by kernel_rfl) rfl rfl rfl (y_index1 Try.runUnderlying22 Try.sizeOf3 (ho244.some_of (by omega)) rfl rfl (by omega)) ?_
                  refine d_val (i := 7) rfl (by kernel_rfl) (by kernel_rfl) (by kernel_rfl) rfl rfl rfl (y_load Try.isAgg3 rfl (cel_int (ho244.cels (j := 0) rfl) (by simp only [List.length_append, List.length_singleton]; omega))) ?_
                  refine d_val (i := 8) rfl (by kernel_rfl) (by kernel_rfl) (by kernel_rfl) rfl rfl rfl (y_build (vs := [(0, .int _ _), (1, .int _ _)]) rfl (GenW_k3 _ _)) ?_
                  refine d_val (i := 13) rfl (by kernel_rfl) (by kernel_rfl) (by kernel_rfl) rfl rfl rfl (y_build (vs := [(0, .agg #[.int _ _, .int _ _]), (1, .slice _ _ _)]) rfl (GenW_k4 _ _ _ _ _)) ?_
                  refine d_eff (k := 14) (n := 5) (m := 6) rfl (by kernel_rfl) rfl ?_
                  refine o_lit (vs := [(0, .agg #[.int _ _, .int _ _, .slice _ _ _])]) rfl rfl (GenW_k5 _ _ _ _ _) (fun b333 => ?_)
                  refine o_nil ?_
                  refine d_eff (k := 15) (n := 5) (m := 6) rfl (by kernel_rfl) rfl ?_
                  refine o_append (sz := 3) (bytes := 40) (news := [(.int _ _), (.int _ _), (.slice _ _ _)]) 4 rfl Try.underlying45 Try.type136 rfl rfl rfl rfl rfl hio rfl rfl (Src.slice Try.underlying45 (cels_own 11 rfl rfl) rfl (by simp [Value.oneCell']) (by simp)) (by omega) (fun A334 c335 E336 ho337 hn338 => ?_)
                  have ho339 : OS A334 (g.its.length + 1) c335 136 3 ((g.its ++ [(IR.mk ((g.i : Nat) : Int) ((g.gs ++ [k3]).getD ((g.i : Nat) : Int).toNat 0) cB cs.length cc cs)]).flatMap encIt) E336 := os_snoc ho337 rfl
                  clear ho337
                  refine o_nil ?_
                  refine d_val (i := 16) rfl (by kernel_rfl) (by kernel_rfl) (by kernel_rfl) rfl rfl rfl (y_field0 Try.runUnderlying47 rfl Try.sizeOf45 rfl rfl) ?_
                  refine d_eff (k := 17) (n := 5) (m := 6) rfl (by kernel_rfl) rfl ?_
                  refine o_store (v := (.slice _ _ _)) 3 rfl Try.sizeOf45 rfl rfl rfl rfl ?_
                  refine o_nil ?_
                  refine d_nil (n := 5) (m := 6) (by kernel_rfl) rfl ?_
                  refine s_norm [_, _, _, [(_, .cells [(.slice _ _ _), (.slice _ _ _), (.slice _ _ _)].toArray 47 (0, 0))], _, _, _, _, _, [(_, .cells [(.slice _ _ _), (.slice _ _ _), (.slice _ _ _)].toArray 47 (0, 0))], [(_, .cells [(.int _ _)].toArray 3 (0, 0))], [(_, .cells [(.int _ _), (.int _ _), (.slice _ _ _)].toArray 136 (0, 0))]] rfl ?_
                  refine s_forget [(2, (.pointer _)), (3, (.pointer _)), (4, (.pointer _)), (13, (.int _ _)), (14, (.int _ _))] ⟨rfl, rfl, rfl, rfl, rfl, trivial⟩ (fun _f => ?_)
                  refine s_region ?_
                  refine o_pull 6 ?_
                  refine o_pull 3 ?_
                  refine o_fuse ?_
                  refine o_pull 2 ?_
                  refine o_fuse ?_
                  refine o_val rfl rfl rfl (y_add rfl rfl (by simp only [inK]; omega)) ?_
                  refine o_val rfl rfl rfl (y_move (v := (.int _ _)) rfl) ?_
                  refine o_nil ?_
                  exact ⟨LW8.mk (g.i + 1) (g.gs ++ [k3]) A239 c240 E241 (g.its ++ [(IR.mk ((g.i : Nat) : Int) ((g.gs ++ [k3]).getD ((g.i : Nat) : Int).toNat 0) cB cs.length cc cs)]) A334 c335 E336 (cE ++ (cP ++ g.P)) cS, (by first | omega | (dsimp only; omega)), ⟨by dsimp only; omega, by simp only [List.length_append, List.length_singleton]; omega, gens_snoc hgg ⟨hk30, hk31 (by decide)⟩, by dsimp only; rw [List.length_append]; exact ho244, by dsimp only; rw [List.length_append]; exact ho339, all_snoc (fun x hx => ((hii x hx).sub inG_right).sub inG_right) ⟨rfl, hco.2.1, by dsimp only; omega, hco.mem.ms inG_left, fun y hy => ((hcx y hy).sub inG_left).sub inG_right⟩, items_snoc (items_more hip) ⟨(show lastI g.its g.its.length < ((g.i : Nat) : Int) from lastI_lt hie (by omega)), by simp only [List.length_append, List.length_singleton]; omega, rfl, by dsimp only; rw [getD_snoc (by omega), if_pos (by omega)]; omega, hch⟩, all_snoc (fun x hx => by have := hie x hx; dsimp only; omega) (by dsimp only; omega), by simp only [List.length_append, List.length_singleton]; omega, by simp only [List.length_append, List.length_singleton]; omega, hst1⟩, ⟨(congrArg (Value.int .i64) (by (try dsimp only); omega)), rfl, rfl, rfl, rfl, trivial⟩, (by dsimp only; rw [List.length_append, List.length_append]; exact sub_picks [1, 1, 2, 1, 0, 0, 0, 0] rfl)⟩
                · refine o_val rfl rfl rfl (y_load Try.isAgg22 rfl (cel_own 3 rfl rfl)) ?_
                  refine o_nil ?_
                  refine d_val (i := 6) rfl (by kernel_rfl) (by kernel_rfl) (by kernel_rfl) rfl rfl rfl (y_index1 Try.runUnderlying22 Try.sizeOf3 (ho244.some_of (by omega)) rfl rfl (by omega)) ?_
                  refine d_val (i := 7) rfl (by kernel_rfl) (by kernel_rfl) (by kernel_rfl) rfl rfl rfl (y_load Try.isAgg3 rfl (cel_int (ho244.cels (j := 0) rfl) (by simp only [List.length_append, List.length_singleton]; omega))) ?_
                  refine d_val (i := 8) rfl (by kernel_rfl) (by kernel_rfl) (by kernel_rfl) rfl rfl rfl (y_build (vs := [(0, .int _ _), (1, .int _ _)]) rfl (GenW_k3 _ _)) ?_
                  refine d_val (i := 13) rfl (by kernel_rfl) (by kernel_rfl) (by kernel_rfl) rfl rfl rfl (y_build (vs := [(0, .agg #[.int _ _, .int _ _]), (1, .slice _ _ _)]) rfl (GenW_k4 _ _ _ _ _)) ?_
                  refine d_eff2 (k := 1) (k' := 14) (n := 5) (m := 6) rfl rfl (by kernel_rfl) rfl ?_ ?_
                  · refine o_val rfl rfl rfl (y_load Try.isAgg45 rfl (cel_own 3 rfl rfl)) ?_
                    refine o_nil ?_
                    refine d_eff (k := 14) (n := 5) (m := 6) rfl (by kernel_rfl) rfl ?_
                    refine o_lit (vs := [(0, .agg #[.int _ _, .int _ _, .slice _ _ _])]) rfl rfl (GenW_k5 _ _ _ _ _) (fun b340 => ?_)
                    refine o_nil ?_
                    refine d_eff (k := 15) (n := 5) (m := 6) rfl (by kernel_rfl) rfl ?_
                    refine o_append (sz := 3) (bytes := 40) (news := [(.int _ _), (.int _ _), (.slice _ _ _)]) 4 rfl Try.underlying45 Try.type136 rfl rfl rfl rfl rfl hio rfl rfl (Src.slice Try.underlying45 (cels_own 11 rfl rfl) rfl (by simp [Value.oneCell']) (by simp)) (by omega) (fun A341 c342 E343 ho344 hn345 => ?_)
                    have ho346 : OS A341 (g.its.length + 1) c342 136 3 ((g.its ++ [(IR.mk ((g.i : Nat) : Int) ((g.gs ++ [k3]).getD ((g.i : Nat) : Int).toNat 0) cB cs.length cc cs)]).flatMap encIt) E343 := os_snoc ho344 rfl
                    clear ho344
                    refine o_nil ?_
                    refine d_val (i := 16) rfl (by kernel_rfl) (by kernel_rfl) (by kernel_rfl) rfl rfl rfl (y_field0 Try.runUnderlying47 rfl Try.sizeOf45 rfl rfl) ?_
                    refine d_eff (k := 17) (n := 5) (m := 6) rfl (by kernel_rfl) rfl ?_
                    refine o_store (v := (.slice _ _ _)) 3 rfl Try.sizeOf45 rfl rfl rfl rfl ?_
                    refine o_nil ?_
                    refine d_nil (n := 5) (m := 6) (by kernel_rfl) rfl ?_
                    refine s_norm [_, _, _, [(_, .cells [(.slice _ _ _), (.slice _ _ _), (.slice _ _ _)].toArray 47 (0, 0))], _, _, _, _, _, [(_, .cells [(.slice _ _ _), (.slice _ _ _), (.slice _ _ _)].toArray 47 (0, 0))], [(_, .cells [(.int _ _)].toArray 3 (0, 0))], [(_, .cells [(.int _ _), (.int _ _), (.slice _ _ _)].toArray 136 (0, 0))]] rfl ?_
                    refine s_forget [(2, (.pointer _)), (3, (.pointer _)), (4, (.pointer _)), (13, (.int _ _)), (14, (.int _ _))] ⟨rfl, rfl, rfl, rfl, rfl, trivial⟩ (fun _f => ?_)
                    refine s_region ?_
                    refine o_pull 6 ?_
                    refine o_pull 3 ?_
                    refine o_fuse ?_
                    refine o_pull 2 ?_
                    refine o_fuse ?_
                    refine o_val rfl rfl rfl (y_add rfl rfl (by simp only [inK]; omega)) ?_
                    refine o_val rfl rfl rfl (y_move (v := (.int _ _)) rfl) ?_
                    refine o_nil ?_
                    exact ⟨LW8.mk (g.i + 1) (g.gs ++ [k3]) A239 c240 E241 (g.its ++ [(IR.mk ((g.i : Nat) : Int) ((g.gs ++ [k3]).getD ((g.i : Nat) : Int).toNat 0) cB cs.length cc cs)]) A341 c342 E343 (cE ++ (cP ++ g.P)) cS, (by first | omega | (dsimp only; omega)), ⟨by dsimp only; omega, by simp only [List.length_append, List.length_singleton]; omega, gens_snoc hgg ⟨hk30, hk31 (by decide)⟩, by dsimp only; rw [List.length_append]; exact ho244, by dsimp only; rw [List.length_append]; exact ho346, all_snoc (fun x hx => ((hii x hx).sub inG_right).sub inG_right) ⟨rfl, hco.2.1, by dsimp only; omega, hco.mem.ms inG_left, fun y hy => ((hcx y hy).sub inG_left).sub inG_right⟩, items_snoc (items_more hip) ⟨(show lastI g.its g.its.length < ((g.i : Nat) : Int) from lastI_lt hie (by omega)), by simp only [List.length_append, List.length_singleton]; omega, rfl, by dsimp only; rw [getD_snoc (by omega), if_pos (by omega)]; omega, hch⟩, all_snoc (fun x hx => by have := hie x hx; dsimp only; omega) (by dsimp only; omega), by simp only [List.length_append, List.length_singleton]; omega, by simp only [List.length_append, List.length_singleton]; omega, hst1⟩, ⟨(congrArg (Value.int .i64) (by (try dsimp only); omega)), rfl, rfl, rfl, rfl, trivial⟩, (by dsimp only; rw [List.length_append, List.length_append]; exact sub_picks [1, 1, 2, 1, 0, 0, 0, 0] rfl)⟩
                  · refine o_lit (vs := [(0, .agg #[.int _ _, .int _ _, .slice _ _ _])]) rfl rfl (GenW_k5 _ _ _ _ _) (fun b347 => ?_)
                    refine o_nil ?_
                    refine d_now (i := 1) [] rfl (by kernel_rfl) (by kernel_rfl) (by kernel_rfl) rfl rfl rfl (y_load Try.isAgg45 rfl (cel_own 3 rfl rfl)) trivial ?_
                    refine d_eff (k := 15) (n := 5) (m := 6) rfl (by kernel_rfl) rfl ?_
                    refine o_append (sz := 3) (bytes := 40) (news := [(.int _ _), (.int _ _), (.slice _ _ _)]) 4 rfl Try.underlying45 Try.type136 rfl rfl rfl rfl rfl hio rfl rfl (Src.slice Try.underlying45 (cels_own 11 rfl rfl) rfl (by simp [Value.oneCell']) (by simp)) (by omega) (fun A348 c349 E350 ho351 hn352 => ?_)
                    have ho353 : OS A348 (g.its.length + 1) c349 136 3 ((g.its ++ [(IR.mk ((g.i : Nat) : Int) ((g.gs ++ [k3]).getD ((g.i : Nat) : Int).toNat 0) cB cs.length cc cs)]).flatMap encIt) E350 := os_snoc ho351 rfl
                    clear ho351
                    refine o_nil ?_
                    refine d_val (i := 16) rfl (by kernel_rfl) (by kernel_rfl) (by kernel_rfl) rfl rfl rfl (y_field0 Try.runUnderlying47 rfl Try.sizeOf45 rfl rfl) ?_
                    refine d_eff (k := 17) (n := 5) (m := 6) rfl (by kernel_rfl) rfl ?_
                    refine o_store (v := (.slice _ _ _)) 3 rfl Try.sizeOf45 rfl rfl rfl rfl ?_
                    refine o_nil ?_
                    refine d_nil (n := 5) (m := 6) (by kernel_rfl) rfl ?_
                    refine s_norm [_, _, _, [(_, .cells [(.slice _ _ _), (.slice _ _ _), (.slice _ _ _)].toArray 47 (0, 0))], _, _, _, _, _, [(_, .cells [(.slice _ _ _), (.slice _ _ _), (.slice _ _ _)].toArray 47 (0, 0))], [(_, .cells [(.int _ _)].toArray 3 (0, 0))], [(_, .cells [(.int _ _), (.int _ _), (.slice _ _ _)].toArray 136 (0, 0))]] rfl ?_
                    refine s_forget [(2, (.pointer _)), (3, (.pointer _)), (4, (.pointer _)), (13, (.int _ _)), (14, (.int _ _))] ⟨rfl, rfl, rfl, rfl, rfl, trivial⟩ (fun _f => ?_)
                    refine s_region ?_
                    refine o_pull 6 ?_
                    refine o_pull 3 ?_
                    refine o_fuse ?_
                    refine o_pull 2 ?_
                    refine o_fuse ?_
                    refine o_val rfl rfl rfl (y_add rfl rfl (by simp only [inK]; omega)) ?_
                    refine o_val rfl rfl rfl (y_move (v := (.int _ _)) rfl) ?_
                    refine o_nil ?_
                    exact ⟨LW8.mk (g.i + 1) (g.gs ++ [k3]) A239 c240 E241 (g.its ++ [(IR.mk ((g.i : Nat) : Int) ((g.gs ++ [k3]).getD ((g.i : Nat) : Int).toNat 0) cB cs.length cc cs)]) A348 c349 E350 (cE ++ (cP ++ g.P)) cS, (by first | omega | (dsimp only; omega)), ⟨by dsimp only; omega, by simp only [List.length_append, List.length_singleton]; omega, gens_snoc hgg ⟨hk30, hk31 (by decide)⟩, by dsimp only; rw [List.length_append]; exact ho244, by dsimp only; rw [List.length_append]; exact ho353, all_snoc (fun x hx => ((hii x hx).sub inG_right).sub inG_right) ⟨rfl, hco.2.1, by dsimp only; omega, hco.mem.ms inG_left, fun y hy => ((hcx y hy).sub inG_left).sub inG_right⟩, items_snoc (items_more hip) ⟨(show lastI g.its g.its.length < ((g.i : Nat) : Int) from lastI_lt hie (by omega)), by simp only [List.length_append, List.length_singleton]; omega, rfl, by dsimp only; rw [getD_snoc (by omega), if_pos (by omega)]; omega, hch⟩, all_snoc (fun x hx => by have := hie x hx; dsimp only; omega) (by dsimp only; omega), by simp only [List.length_append, List.length_singleton]; omega, by simp only [List.length_append, List.length_singleton]; omega, hst1⟩, ⟨(congrArg (Value.int .i64) (by (try dsimp only); omega)), rfl, rfl, rfl, rfl, trivial⟩, (by dsimp only; rw [List.length_append, List.length_append]; exact sub_picks [1, 1, 2, 1, 0, 0, 0, 0] rfl)⟩
  · refine s_exit ?_
    refine s_seq ?_
    refine s_region ?_
    refine o_val rfl rfl rfl (y_loads (cs := [_, _, _]) Try.isAgg47 Try.sizeOf47 rfl rfl rfl (cels_own 1 rfl rfl)) ?_
    refine o_stores (vs := [(.slice _ _ _), (.slice _ _ _), (.slice _ _ _)]) 7 rfl Try.sizeOf47 rfl rfl rfl (by simp [Value.oneCell']) (by simp) ?_
    refine o_nil ?_
    refine s_norm [_, [(_, .cells [(.slice _ _ _), (.slice _ _ _), (.slice _ _ _)].toArray 47 (0, 0))], _, _, _, _, _, [(_, .cells [(.slice _ _ _), (.slice _ _ _), (.slice _ _ _)].toArray 47 (0, 0))]] rfl ?_
    refine s_ret ?_
    have hall : ∀ (X : Grp), X ∈ [kE, kP, g.gE, g.iE, g.P] → MSub (inG X) (inG ([kE, kP, g.gE, g.iE, g.P] : List Grp).flatten) := fun X hX => inG_mem hX
    exact ⟨_, [([kE, kP, g.gE, g.iE, g.P] : List Grp).flatten], resv1 rfl (RV.cells (cs := [_, _, _]) rfl Try.isAgg47 Try.sizeOf47 rfl rfl (cels_own 7 rfl rfl)), ⟨⟨kB, kx.length, kc, kx, g.gA, g.gs.length, g.gc, g.gs, g.iA, g.its.length, g.iC, g.its⟩, _, rfl, ⟨⟨rfl, hko.2.1, by dsimp only; omega, hko.mem.ms (hall _ (by simp)), fun x hx => (hkx x hx).sub (hall _ (by simp))⟩, ⟨rfl, hgo.2.1, by dsimp only; omega, hgo.mem.ms (hall _ (by simp))⟩, ⟨rfl, hio.2.1, by dsimp only; omega, hio.mem.ms (hall _ (by simp)), fun x hx => (hii x hx).sub (hall _ (by simp))⟩⟩, ⟨hkg, by dsimp only; omega, hi8, wErr_ok hck (by dsimp only; omega) (gensS_P hgg) hip, hgg⟩, rfl⟩, Sub.trans sub_flat (sub_picks [5, 5, 2, 2, 2] rfl)⟩

end Go.Proofs.Ytacmbiohjiogiaa.K
