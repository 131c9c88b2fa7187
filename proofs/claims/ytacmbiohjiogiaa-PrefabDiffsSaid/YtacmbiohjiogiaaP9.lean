/- Walks over the library's stable sort: what is sorted stays as it is. No condition beyond what each statement names. -/
import Derived.Test.YtacmbiohjiogiaaProg
import Derived.Test.YtacmbiohjiogiaaK14
import Derived.Test.YtacmbiohjiogiaaK19
import Derived.Test.YtacmbiohjiogiaaM1
import Derived.Test.YtacmbiohjiogiaaM2
import Derived.Test.YtacmbiohjiogiaaW1
import Derived.Test.YtacmbiohjiogiaaW2
import Derived.Test.YtacmbiohjiogiaaW3
import Derived.Test.YtacmbiohjiogiaaW4
import Derived.Test.YtacmbiohjiogiaaW6
import Derived.Test.YtacmbiohjiogiaaW7
import Derived.Test.YtacmbiohjiogiaaX1
import Derived.Test.YtacmbiohjiogiaaP1
import Derived.Test.YtacmbiohjiogiaaP2
set_option linter.unusedVariables false
set_option linter.unusedSimpArgs false
set_option maxRecDepth 100000
set_option maxHeartbeats 1000000
namespace Go.Proofs.Ytacmbiohjiogiaa.K
open Go.RowKit

theorem half2 (z : Int) : z.fdiv (2 ^ (min (1 : Int).toNat IntKind.u64.bits)) = z / 2 := by
  show z.fdiv 2 = z / 2
  exact Int.fdiv_eq_ediv_of_nonneg z (by decide)

theorem InsS_c {V : Mem} (A : Option Addr) (n c : Nat) (xs : List OvR) (h : Cels V [] A (xs.flatMap encOv)) (hn : xs.length = n) (hb : n ≤ 1000000) (hX : ∀ x ∈ xs, OvOK V x) (fid : FuncId) (cap : List Value) (hcall : ∀ args w, (callFunc fid args).run Try.prog w = .ok (.enter fid args) w) (cf : OvR → OvR → Int) (hf : ∀ (V' : Mem) (x y : OvR) (hx : OvOK V' x) (hy : OvOK V' y), CallS Try.prog fid (([.agg #[.slice x.A x.n x.c, .int .i64 x.kind, .int .i64 x.field, .int .i64 x.val], .agg #[.slice y.A y.n y.c, .int .i64 y.kind, .int .i64 y.field, .int .i64 y.val]] : List Value) ++ cap).toArray V' [] (fun r L' => r = .int .i64 (cf x y) ∧ L' = [])) (hs : ∀ i j : Int, 0 ≤ i → i ≤ j → j < n → 0 ≤ cf (xs.getD j.toNat default) (xs.getD i.toNat default)) (a b : Int) (ha : 0 ≤ a ∧ a ≤ n) (hbn : b ≤ n) : CallS Try.prog 187 [.slice A n c, .int .i64 a, .int .i64 b, .func (.func fid) #[] cap.toArray].toArray V [] (fun r L' => r = .tuple #[] ∧ L' = []) := by
  refine callS Try.func187 rfl rfl (fun w0 => ?_)
  refine s_seq ?_
  refine s_region ?_
  refine o_val rfl rfl rfl (y_move (v := (.int _ _)) rfl) ?_
  refine o_val rfl rfl rfl (y_add rfl rfl (by simp only [inK]; omega)) ?_
  refine o_val rfl rfl rfl (y_assign (v := (.int _ _)) rfl) ?_
  refine o_nil ?_
  refine s_block ?_
  refine s_loopK (γ := Nat) [(0, (.slice _ _ _)), (1, (.int _ _)), (2, (.int _ _)), (3, (.func _ _ _))] [] (fun g => [(8, .int .i64 (a + 1 + ((g : Nat) : Int)))]) (fun g => []) (fun g => a + 1 + ((g : Nat) : Int) ≤ n + 1) (fun g => (b - (a + 1 + ((g : Nat) : Int))).toNat) (0) ⟨(congrArg (Value.int .i64) (by omega)), rfl, rfl, rfl, rfl, trivial⟩ (sub_picks [] rfl) ?_ ?_
  · omega
  intro g _f hI
  have hgi := hI
  refine s_seq ?_
  refine s_seq ?_
  refine s_region ?_
  refine o_val rfl rfl rfl (y_move (v := (.int _ _)) rfl) ?_
  refine o_val rfl rfl rfl (y_move (v := (.int _ _)) rfl) ?_
  refine o_val rfl rfl rfl (y_lss rfl rfl) ?_
  refine o_nil ?_
  refine s_if rfl (fun h1 => ?_) (fun h2 => ?_)
  · refine s_skip ?_
    refine s_seq ?_
    refine s_block ?_
    refine s_seq ?_
    refine s_region ?_
    refine o_val rfl rfl rfl (y_move (v := (.int _ _)) rfl) ?_
    refine o_val rfl rfl rfl (y_assign (v := (.int _ _)) rfl) ?_
    refine o_nil ?_
    refine s_block ?_
    refine s_loopK (γ := Unit) [(0, (.slice _ _ _)), (1, (.int _ _)), (2, (.int _ _)), (3, (.func _ _ _)), (8, (.int _ _))] [] (fun _u => [(9, .int .i64 (a + 1 + ((g : Nat) : Int)))]) (fun _u => []) (fun _u => True) (fun _u => 0) (()) ⟨rfl, rfl, rfl, rfl, rfl, rfl, trivial⟩ (sub_picks [] rfl) ?_ ?_
    · exact trivial
    intro _u _f hU
    refine s_seq ?_
    refine s_seq ?_
    refine s_drawn 0 (by kernel_rfl) ?_
    refine d_val (i := 0) rfl (by kernel_rfl) (by kernel_rfl) (by kernel_rfl) rfl rfl rfl (y_move (v := (.int _ _)) rfl) ?_
    refine d_val (i := 1) rfl (by kernel_rfl) (by kernel_rfl) (by kernel_rfl) rfl rfl rfl (y_move (v := (.int _ _)) rfl) ?_
    refine d_split (i := 2) rfl (by kernel_rfl) (by kernel_rfl) (by kernel_rfl) rfl rfl rfl (y_gtr rfl rfl) (fun p3 => ?_) (fun p4 => ?_)
    · refine d_val (i := 3) rfl (by kernel_rfl) (by kernel_rfl) (by kernel_rfl) rfl rfl rfl (y_move (v := (.bool _)) rfl) ?_
      refine d_val_g (i := 4) rfl (by kernel_rfl) (by kernel_rfl) (by kernel_rfl) rfl rfl rfl rfl (y_move (v := (.func _ _ _)) rfl) ?_
      refine d_val_g (i := 5) rfl (by kernel_rfl) (by kernel_rfl) (by kernel_rfl) rfl rfl rfl rfl (y_move (v := (.slice _ _ _)) rfl) ?_
      refine d_val_g (i := 6) rfl (by kernel_rfl) (by kernel_rfl) (by kernel_rfl) rfl rfl rfl rfl (y_move (v := (.int _ _)) rfl) ?_
      refine d_val_g (i := 7) rfl (by kernel_rfl) (by kernel_rfl) (by kernel_rfl) rfl rfl rfl rfl (y_indexAddr Try.runUnderlying39 Try.sizeOf147 (some_at (sz := 3) encOv_len (i := 0) h (by omega)) rfl rfl (by omega)) ?_
      refine d_val_g (i := 8) rfl (by kernel_rfl) (by kernel_rfl) (by kernel_rfl) rfl rfl rfl rfl (y_loads (cs := [_, _, _, _]) Try.isAgg147 Try.sizeOf147 rfl (by unfold idx; rw [Option.isSome_map]; exact some_at (sz := 3) encOv_len (i := 0) h (by omega)) rfl (cels_at (sz := 4) encOv_len h.here (by omega))) ?_
      refine d_val_g (i := 9) rfl (by kernel_rfl) (by kernel_rfl) (by kernel_rfl) rfl rfl rfl rfl (y_move (v := (.slice _ _ _)) rfl) ?_
      refine d_val_g (i := 10) rfl (by kernel_rfl) (by kernel_rfl) (by kernel_rfl) rfl rfl rfl rfl (y_move (v := (.int _ _)) rfl) ?_
      refine d_val_g (i := 11) rfl (by kernel_rfl) (by kernel_rfl) (by kernel_rfl) rfl rfl rfl rfl (y_sub rfl rfl (by simp only [inK]; omega)) ?_
      refine d_val_g (i := 12) rfl (by kernel_rfl) (by kernel_rfl) (by kernel_rfl) rfl rfl rfl rfl (y_indexAddr Try.runUnderlying39 Try.sizeOf147 (some_at (sz := 3) encOv_len (i := 0) h (by omega)) rfl rfl (by omega)) ?_
      refine d_val_g (i := 13) rfl (by kernel_rfl) (by kernel_rfl) (by kernel_rfl) rfl rfl rfl rfl (y_loads (cs := [_, _, _, _]) Try.isAgg147 Try.sizeOf147 rfl (by unfold idx; rw [Option.isSome_map]; exact some_at (sz := 3) encOv_len (i := 0) h (by omega)) rfl (cels_at (sz := 4) encOv_len h.here (by omega))) ?_
      refine d_eff (k := 14) (n := 0) (m := 0) rfl (by kernel_rfl) rfl ?_
      refine o_guard_yes rfl rfl ?_
      refine o_fnv' 0 (d := 32) rfl hcall rfl rfl rfl (hf _ (xs.getD (a + 1 + ((g : Nat) : Int)).toNat default) (xs.getD (a + 1 + ((g : Nat) : Int) - 1).toNat default) ((hX _ (getD_mem' (show (a + 1 + ((g : Nat) : Int)).toNat < xs.length by omega) : (xs.getD (a + 1 + ((g : Nat) : Int)).toNat default) ∈ xs)).sub MSub.ext) ((hX _ (getD_mem' (show (a + 1 + ((g : Nat) : Int) - 1).toNat < xs.length by omega) : (xs.getD (a + 1 + ((g : Nat) : Int) - 1).toNat default) ∈ xs)).sub MSub.ext)) ?_
      rintro _ _ ⟨rfl, rfl⟩
      have hge := hs (a + 1 + ((g : Nat) : Int) - 1) (a + 1 + ((g : Nat) : Int)) (by omega) (by omega) (by omega)
      refine o_nil ?_
      refine d_split_g (i := 15) rfl (by kernel_rfl) (by kernel_rfl) (by kernel_rfl) rfl rfl rfl rfl (y_lss rfl rfl) (fun p5 => ?_) (fun p6 => ?_)
      · exfalso; omega
      · refine d_val (i := 16) rfl (by kernel_rfl) (by kernel_rfl) (by kernel_rfl) rfl rfl rfl (y_pick_t (v := (.bool _)) rfl rfl) ?_
        refine d_nil (n := 0) (m := 0) (by kernel_rfl) rfl ?_
        refine s_forget [(0, (.slice _ _ _)), (1, (.int _ _)), (2, (.int _ _)), (3, (.func _ _ _)), (8, (.int _ _)), (9, (.int _ _)), (34, (.bool _))] ⟨rfl, rfl, rfl, rfl, rfl, rfl, rfl, trivial⟩ (fun _f => ?_)
        refine s_else rfl ?_
        refine s_exit ?_
        refine s_region ?_
        refine o_val rfl rfl rfl (y_move (v := (.int _ _)) rfl) ?_
        refine o_val rfl rfl rfl (y_add rfl rfl (by simp only [inK]; omega)) ?_
        refine o_val rfl rfl rfl (y_assign (v := (.int _ _)) rfl) ?_
        refine o_nil ?_
        exact ⟨g + 1, (by omega), by omega, ⟨(congrArg (Value.int .i64) (by omega)), rfl, rfl, rfl, rfl, trivial⟩, (sub_picks [] rfl)⟩
    · exfalso; omega
  · refine s_exit ?_
    exact ⟨_, [], res0 rfl, ⟨rfl, rfl⟩, sub_picks [] rfl⟩

theorem SymM_c (k : Nat) : ∀ {V : Mem} (A : Option Addr) (n c : Nat) (xs : List OvR) (h : Cels V [] A (xs.flatMap encOv)) (hn : xs.length = n) (hb : n ≤ 1000000) (hX : ∀ x ∈ xs, OvOK V x) (fid : FuncId) (cap : List Value) (hcall : ∀ args w, (callFunc fid args).run Try.prog w = .ok (.enter fid args) w) (cf : OvR → OvR → Int) (hf : ∀ (V' : Mem) (x y : OvR) (hx : OvOK V' x) (hy : OvOK V' y), CallS Try.prog fid (([.agg #[.slice x.A x.n x.c, .int .i64 x.kind, .int .i64 x.field, .int .i64 x.val], .agg #[.slice y.A y.n y.c, .int .i64 y.kind, .int .i64 y.field, .int .i64 y.val]] : List Value) ++ cap).toArray V' [] (fun r L' => r = .int .i64 (cf x y) ∧ L' = [])) (hs : ∀ i j : Int, 0 ≤ i → i ≤ j → j < n → 0 ≤ cf (xs.getD j.toNat default) (xs.getD i.toNat default)) (a m b : Int) (hk : (b - a).toNat = k) (ha : 0 ≤ a) (ham : a < m) (hmb : m < b) (hbn : b ≤ n), CallS Try.prog 188 [.slice A n c, .int .i64 a, .int .i64 m, .int .i64 b, .func (.func fid) #[] cap.toArray].toArray V [] (fun r L' => r = .tuple #[] ∧ L' = []) := by
  induction k using Nat.strongRecOn
  rename_i k ih
  intro V A n c xs h hn hb hX fid cap hcall cf hf hs a m b hk ha ham hmb hbn
  refine callS Try.func188 rfl rfl (fun w0 => ?_)
  refine s_seq ?_
  refine s_seq ?_
  refine s_region ?_
  refine o_val rfl rfl rfl (y_move (v := (.int _ _)) rfl) ?_
  refine o_val rfl rfl rfl (y_move (v := (.int _ _)) rfl) ?_
  refine o_val rfl rfl rfl (y_sub rfl rfl (by simp only [inK]; omega)) ?_
  refine o_val rfl rfl rfl (y_eql rfl rfl) ?_
  refine o_nil ?_
  refine s_if rfl (fun h1 => ?_) (fun h2 => ?_)
  · have hc1 := h1
    refine s_seq ?_
    refine s_region ?_
    refine o_val rfl rfl rfl (y_move (v := (.int _ _)) rfl) ?_
    refine o_val rfl rfl rfl (y_assign (v := (.int _ _)) rfl) ?_
    refine o_nil ?_
    refine s_seq ?_
    refine s_region ?_
    refine o_val rfl rfl rfl (y_move (v := (.int _ _)) rfl) ?_
    refine o_val rfl rfl rfl (y_assign (v := (.int _ _)) rfl) ?_
    refine o_nil ?_
    refine s_seq ?_
    refine s_block ?_
    refine s_loopK (γ := Int) [(0, (.slice _ _ _)), (1, (.int _ _)), (2, (.int _ _)), (3, (.int _ _)), (4, (.func _ _ _))] [] (fun g => [(10, .int .i64 m), (11, .int .i64 g)]) (fun g => []) (fun g => m ≤ g ∧ g ≤ b) (fun g => (g - m).toNat) (b) ⟨rfl, rfl, rfl, rfl, rfl, rfl, rfl, trivial⟩ (sub_picks [] rfl) ?_ ?_
    · omega
    intro g _f hI
    obtain ⟨hg1, hg2⟩ := hI
    refine s_seq ?_
    refine s_seq ?_
    refine s_region ?_
    refine o_val rfl rfl rfl (y_move (v := (.int _ _)) rfl) ?_
    refine o_val rfl rfl rfl (y_move (v := (.int _ _)) rfl) ?_
    refine o_val rfl rfl rfl (y_lss rfl rfl) ?_
    refine o_nil ?_
    refine s_if rfl (fun h3 => ?_) (fun h4 => ?_)
    · refine s_skip ?_
      refine s_block ?_
      refine s_seq ?_
      refine s_region ?_
      refine o_val rfl rfl rfl (y_move (v := (.int _ _)) rfl) ?_
      refine o_val rfl rfl rfl (y_move (v := (.int _ _)) rfl) ?_
      refine o_val rfl rfl rfl (y_add rfl rfl (by simp only [inK]; omega)) ?_
      refine o_val rfl rfl rfl (y_conv Try.runUnderlying3 Try.runUnderlying164 rfl (by simp only [inK]; omega)) ?_
      refine o_val rfl rfl rfl ((y_shr rfl rfl (by omega)).int (half2 _)) ?_
      refine o_val rfl rfl rfl (y_conv Try.runUnderlying164 Try.runUnderlying3 rfl (by simp only [inK]; omega)) ?_
      refine o_val rfl rfl rfl (y_assign (v := (.int _ _)) rfl) ?_
      refine o_nil ?_
      refine s_forget [(0, (.slice _ _ _)), (1, (.int _ _)), (2, (.int _ _)), (3, (.int _ _)), (4, (.func _ _ _)), (10, (.int _ _)), (11, (.int _ _)), (12, (.int _ _))] ⟨rfl, rfl, rfl, rfl, rfl, rfl, rfl, rfl, trivial⟩ (fun _f => ?_)
      refine s_seq ?_
      refine s_drawn 0 (by kernel_rfl) ?_
      refine d_val (i := 0) rfl (by kernel_rfl) (by kernel_rfl) (by kernel_rfl) rfl rfl rfl (y_move (v := (.func _ _ _)) rfl) ?_
      refine d_val (i := 1) rfl (by kernel_rfl) (by kernel_rfl) (by kernel_rfl) rfl rfl rfl (y_move (v := (.slice _ _ _)) rfl) ?_
      refine d_val (i := 2) rfl (by kernel_rfl) (by kernel_rfl) (by kernel_rfl) rfl rfl rfl (y_move (v := (.int _ _)) rfl) ?_
      refine d_val (i := 3) rfl (by kernel_rfl) (by kernel_rfl) (by kernel_rfl) rfl rfl rfl (y_indexAddr Try.runUnderlying39 Try.sizeOf147 (some_at (sz := 3) encOv_len (i := 0) h (by omega)) rfl rfl (by omega)) ?_
      refine d_val (i := 4) rfl (by kernel_rfl) (by kernel_rfl) (by kernel_rfl) rfl rfl rfl (y_loads (cs := [_, _, _, _]) Try.isAgg147 Try.sizeOf147 rfl (by unfold idx; rw [Option.isSome_map]; exact some_at (sz := 3) encOv_len (i := 0) h (by omega)) rfl (cels_at (sz := 4) encOv_len h.here (by omega))) ?_
      refine d_val (i := 5) rfl (by kernel_rfl) (by kernel_rfl) (by kernel_rfl) rfl rfl rfl (y_move (v := (.slice _ _ _)) rfl) ?_
      refine d_val (i := 6) rfl (by kernel_rfl) (by kernel_rfl) (by kernel_rfl) rfl rfl rfl (y_move (v := (.int _ _)) rfl) ?_
      refine d_val (i := 7) rfl (by kernel_rfl) (by kernel_rfl) (by kernel_rfl) rfl rfl rfl (y_indexAddr Try.runUnderlying39 Try.sizeOf147 (some_at (sz := 3) encOv_len (i := 0) h (by omega)) rfl rfl (by omega)) ?_
      refine d_val (i := 8) rfl (by kernel_rfl) (by kernel_rfl) (by kernel_rfl) rfl rfl rfl (y_loads (cs := [_, _, _, _]) Try.isAgg147 Try.sizeOf147 rfl (by unfold idx; rw [Option.isSome_map]; exact some_at (sz := 3) encOv_len (i := 0) h (by omega)) rfl (cels_at (sz := 4) encOv_len h.here (by omega))) ?_
      refine d_eff (k := 9) (n := 0) (m := 0) rfl (by kernel_rfl) rfl ?_
      refine o_fnv' 0 (d := 49) rfl hcall rfl rfl rfl (hf _ (xs.getD ((m + g) / 2).toNat default) (xs.getD (a).toNat default) ((hX _ (getD_mem' (show ((m + g) / 2).toNat < xs.length by omega) : (xs.getD ((m + g) / 2).toNat default) ∈ xs)).sub MSub.ext) ((hX _ (getD_mem' (show (a).toNat < xs.length by omega) : (xs.getD (a).toNat default) ∈ xs)).sub MSub.ext)) ?_
      rintro _ _ ⟨rfl, rfl⟩
      have hge := hs (a) ((m + g) / 2) (by omega) (by omega) (by omega)
      refine o_nil ?_
      refine d_val (i := 10) rfl (by kernel_rfl) (by kernel_rfl) (by kernel_rfl) rfl rfl rfl (y_lss rfl rfl) ?_
      refine d_nil (n := 0) (m := 0) (by kernel_rfl) rfl ?_
      refine s_if rfl (fun h5 => ?_) (fun h6 => ?_)
      · exfalso; omega
      · refine s_region ?_
        refine o_val rfl rfl rfl (y_move (v := (.int _ _)) rfl) ?_
        refine o_val rfl rfl rfl (y_assign (v := (.int _ _)) rfl) ?_
        refine o_nil ?_
        exact ⟨(m + g) / 2, (by omega), by omega, ⟨rfl, rfl, rfl, rfl, rfl, rfl, rfl, trivial⟩, (sub_picks [] rfl)⟩
    · refine s_exit ?_
      refine s_seq ?_
      refine s_seq ?_
      refine s_region ?_
      refine o_val rfl rfl rfl (y_move (v := (.int _ _)) rfl) ?_
      refine o_val rfl rfl rfl (y_assign (v := (.int _ _)) rfl) ?_
      refine o_nil ?_
      refine s_block ?_
      refine s_loopK (γ := Unit) [(0, (.slice _ _ _)), (1, (.int _ _)), (2, (.int _ _)), (3, (.int _ _)), (4, (.func _ _ _)), (10, (.int _ _))] [] (fun _u => [(13, .int .i64 a)]) (fun _u => []) (fun _u => True) (fun _u => 0) (()) ⟨rfl, rfl, rfl, rfl, rfl, rfl, rfl, trivial⟩ (sub_picks [] rfl) ?_ ?_
      · exact trivial
      intro _u _f hU
      refine s_seq ?_
      refine s_seq ?_
      refine s_region ?_
      refine o_val rfl rfl rfl (y_move (v := (.int _ _)) rfl) ?_
      refine o_val rfl rfl rfl (y_move (v := (.int _ _)) rfl) ?_
      refine o_val rfl rfl rfl (y_sub rfl rfl (by simp only [inK]; omega)) ?_
      refine o_val rfl rfl rfl (y_lss rfl rfl) ?_
      refine o_nil ?_
      refine s_if rfl (fun h7 => ?_) (fun h8 => ?_)
      · exfalso; omega
      · refine s_exit ?_
        refine s_ret ?_
        exact ⟨_, [], res0 rfl, ⟨rfl, rfl⟩, sub_picks [] rfl⟩
  · have hc1 := h2
    refine s_skip ?_
    refine s_seq ?_
    refine s_seq ?_
    refine s_region ?_
    refine o_val rfl rfl rfl (y_move (v := (.int _ _)) rfl) ?_
    refine o_val rfl rfl rfl (y_move (v := (.int _ _)) rfl) ?_
    refine o_val rfl rfl rfl (y_sub rfl rfl (by simp only [inK]; omega)) ?_
    refine o_val rfl rfl rfl (y_eql rfl rfl) ?_
    refine o_nil ?_
    refine s_if rfl (fun h9 => ?_) (fun h10 => ?_)
    · have hc2 := h9
      refine s_seq ?_
      refine s_region ?_
      refine o_val rfl rfl rfl (y_move (v := (.int _ _)) rfl) ?_
      refine o_val rfl rfl rfl (y_assign (v := (.int _ _)) rfl) ?_
      refine o_nil ?_
      refine s_forget [(0, (.slice _ _ _)), (1, (.int _ _)), (2, (.int _ _)), (3, (.int _ _)), (4, (.func _ _ _)), (14, (.int _ _))] ⟨rfl, rfl, rfl, rfl, rfl, rfl, trivial⟩ (fun _f => ?_)
      refine s_seq ?_
      refine s_region ?_
      refine o_val rfl rfl rfl (y_move (v := (.int _ _)) rfl) ?_
      refine o_val rfl rfl rfl (y_assign (v := (.int _ _)) rfl) ?_
      refine o_nil ?_
      refine s_seq ?_
      refine s_block ?_
      refine s_loopK (γ := Int) [(0, (.slice _ _ _)), (1, (.int _ _)), (2, (.int _ _)), (3, (.int _ _)), (4, (.func _ _ _))] [] (fun g => [(15, .int .i64 m), (14, .int .i64 g)]) (fun g => []) (fun g => a ≤ g ∧ g ≤ m) (fun g => (m - g).toNat) (a) ⟨rfl, rfl, rfl, rfl, rfl, rfl, rfl, trivial⟩ (sub_picks [] rfl) ?_ ?_
      · omega
      intro g _f hI
      obtain ⟨hg1, hg2⟩ := hI
      refine s_seq ?_
      refine s_seq ?_
      refine s_region ?_
      refine o_val rfl rfl rfl (y_move (v := (.int _ _)) rfl) ?_
      refine o_val rfl rfl rfl (y_move (v := (.int _ _)) rfl) ?_
      refine o_val rfl rfl rfl (y_lss rfl rfl) ?_
      refine o_nil ?_
      refine s_if rfl (fun h11 => ?_) (fun h12 => ?_)
      · refine s_skip ?_
        refine s_block ?_
        refine s_seq ?_
        refine s_region ?_
        refine o_val rfl rfl rfl (y_move (v := (.int _ _)) rfl) ?_
        refine o_val rfl rfl rfl (y_move (v := (.int _ _)) rfl) ?_
        refine o_val rfl rfl rfl (y_add rfl rfl (by simp only [inK]; omega)) ?_
        refine o_val rfl rfl rfl (y_conv Try.runUnderlying3 Try.runUnderlying164 rfl (by simp only [inK]; omega)) ?_
        refine o_val rfl rfl rfl ((y_shr rfl rfl (by omega)).int (half2 _)) ?_
        refine o_val rfl rfl rfl (y_conv Try.runUnderlying164 Try.runUnderlying3 rfl (by simp only [inK]; omega)) ?_
        refine o_val rfl rfl rfl (y_assign (v := (.int _ _)) rfl) ?_
        refine o_nil ?_
        refine s_forget [(0, (.slice _ _ _)), (1, (.int _ _)), (2, (.int _ _)), (3, (.int _ _)), (4, (.func _ _ _)), (14, (.int _ _)), (15, (.int _ _)), (16, (.int _ _))] ⟨rfl, rfl, rfl, rfl, rfl, rfl, rfl, rfl, trivial⟩ (fun _f => ?_)
        refine s_seq ?_
        refine s_drawn 0 (by kernel_rfl) ?_
        refine d_val (i := 0) rfl (by kernel_rfl) (by kernel_rfl) (by kernel_rfl) rfl rfl rfl (y_move (v := (.func _ _ _)) rfl) ?_
        refine d_val (i := 1) rfl (by kernel_rfl) (by kernel_rfl) (by kernel_rfl) rfl rfl rfl (y_move (v := (.slice _ _ _)) rfl) ?_
        refine d_val (i := 2) rfl (by kernel_rfl) (by kernel_rfl) (by kernel_rfl) rfl rfl rfl (y_move (v := (.int _ _)) rfl) ?_
        refine d_val (i := 3) rfl (by kernel_rfl) (by kernel_rfl) (by kernel_rfl) rfl rfl rfl (y_indexAddr Try.runUnderlying39 Try.sizeOf147 (some_at (sz := 3) encOv_len (i := 0) h (by omega)) rfl rfl (by omega)) ?_
        refine d_val (i := 4) rfl (by kernel_rfl) (by kernel_rfl) (by kernel_rfl) rfl rfl rfl (y_loads (cs := [_, _, _, _]) Try.isAgg147 Try.sizeOf147 rfl (by unfold idx; rw [Option.isSome_map]; exact some_at (sz := 3) encOv_len (i := 0) h (by omega)) rfl (cels_at (sz := 4) encOv_len h.here (by omega))) ?_
        refine d_val (i := 5) rfl (by kernel_rfl) (by kernel_rfl) (by kernel_rfl) rfl rfl rfl (y_move (v := (.slice _ _ _)) rfl) ?_
        refine d_val (i := 6) rfl (by kernel_rfl) (by kernel_rfl) (by kernel_rfl) rfl rfl rfl (y_move (v := (.int _ _)) rfl) ?_
        refine d_val (i := 7) rfl (by kernel_rfl) (by kernel_rfl) (by kernel_rfl) rfl rfl rfl (y_indexAddr Try.runUnderlying39 Try.sizeOf147 (some_at (sz := 3) encOv_len (i := 0) h (by omega)) rfl rfl (by omega)) ?_
        refine d_val (i := 8) rfl (by kernel_rfl) (by kernel_rfl) (by kernel_rfl) rfl rfl rfl (y_loads (cs := [_, _, _, _]) Try.isAgg147 Try.sizeOf147 rfl (by unfold idx; rw [Option.isSome_map]; exact some_at (sz := 3) encOv_len (i := 0) h (by omega)) rfl (cels_at (sz := 4) encOv_len h.here (by omega))) ?_
        refine d_eff (k := 9) (n := 0) (m := 0) rfl (by kernel_rfl) rfl ?_
        refine o_fnv' 0 (d := 101) rfl hcall rfl rfl rfl (hf _ (xs.getD (m).toNat default) (xs.getD ((g + m) / 2).toNat default) ((hX _ (getD_mem' (show (m).toNat < xs.length by omega) : (xs.getD (m).toNat default) ∈ xs)).sub MSub.ext) ((hX _ (getD_mem' (show ((g + m) / 2).toNat < xs.length by omega) : (xs.getD ((g + m) / 2).toNat default) ∈ xs)).sub MSub.ext)) ?_
        rintro _ _ ⟨rfl, rfl⟩
        have hge := hs ((g + m) / 2) (m) (by omega) (by omega) (by omega)
        refine o_nil ?_
        refine d_val (i := 10) rfl (by kernel_rfl) (by kernel_rfl) (by kernel_rfl) rfl rfl rfl (y_lss rfl rfl) ?_
        refine d_val (i := 11) rfl (by kernel_rfl) (by kernel_rfl) (by kernel_rfl) rfl rfl rfl (y_not rfl) ?_
        refine d_nil (n := 0) (m := 0) (by kernel_rfl) rfl ?_
        refine s_if rfl (fun h13 => ?_) (fun h14 => ?_)
        · refine s_region ?_
          refine o_val rfl rfl rfl (y_move (v := (.int _ _)) rfl) ?_
          refine o_val rfl rfl rfl (y_add rfl rfl (by simp only [inK]; omega)) ?_
          refine o_val rfl rfl rfl (y_assign (v := (.int _ _)) rfl) ?_
          refine o_nil ?_
          exact ⟨(g + m) / 2 + 1, (by omega), by omega, ⟨rfl, rfl, rfl, rfl, rfl, rfl, rfl, trivial⟩, (sub_picks [] rfl)⟩
        · exact absurd (show ¬ _ from by omega) h14
      · refine s_exit ?_
        refine s_seq ?_
        refine s_seq ?_
        refine s_region ?_
        refine o_val rfl rfl rfl (y_move (v := (.int _ _)) rfl) ?_
        refine o_val rfl rfl rfl (y_assign (v := (.int _ _)) rfl) ?_
        refine o_nil ?_
        refine s_block ?_
        refine s_loopK (γ := Unit) [(0, (.slice _ _ _)), (1, (.int _ _)), (2, (.int _ _)), (3, (.int _ _)), (4, (.func _ _ _)), (14, (.int _ _))] [] (fun _u => [(17, .int .i64 m)]) (fun _u => []) (fun _u => True) (fun _u => 0) (()) ⟨rfl, rfl, rfl, rfl, rfl, rfl, rfl, trivial⟩ (sub_picks [] rfl) ?_ ?_
        · exact trivial
        intro _u _f hU
        refine s_seq ?_
        refine s_seq ?_
        refine s_region ?_
        refine o_val rfl rfl rfl (y_move (v := (.int _ _)) rfl) ?_
        refine o_val rfl rfl rfl (y_move (v := (.int _ _)) rfl) ?_
        refine o_val rfl rfl rfl (y_gtr rfl rfl) ?_
        refine o_nil ?_
        refine s_if rfl (fun h15 => ?_) (fun h16 => ?_)
        · exfalso; omega
        · refine s_exit ?_
          refine s_ret ?_
          exact ⟨_, [], res0 rfl, ⟨rfl, rfl⟩, sub_picks [] rfl⟩
    · have hc2 := h10
      refine s_skip ?_
      refine s_seq ?_
      refine s_region ?_
      refine o_val rfl rfl rfl (y_move (v := (.int _ _)) rfl) ?_
      refine o_val rfl rfl rfl (y_move (v := (.int _ _)) rfl) ?_
      refine o_val rfl rfl rfl (y_add rfl rfl (by simp only [inK]; omega)) ?_
      refine o_val rfl rfl rfl (y_conv Try.runUnderlying3 Try.runUnderlying164 rfl (by simp only [inK]; omega)) ?_
      refine o_val rfl rfl rfl ((y_shr rfl rfl (by omega)).int (half2 _)) ?_
      refine o_val rfl rfl rfl (y_conv Try.runUnderlying164 Try.runUnderlying3 rfl (by simp only [inK]; omega)) ?_
      refine o_val rfl rfl rfl (y_assign (v := (.int _ _)) rfl) ?_
      refine o_nil ?_
      refine s_forget [(0, (.slice _ _ _)), (1, (.int _ _)), (2, (.int _ _)), (3, (.int _ _)), (4, (.func _ _ _)), (18, (.int _ _))] ⟨rfl, rfl, rfl, rfl, rfl, rfl, trivial⟩ (fun _f => ?_)
      refine s_seq ?_
      refine s_region ?_
      refine o_val rfl rfl rfl (y_move (v := (.int _ _)) rfl) ?_
      refine o_val rfl rfl rfl (y_move (v := (.int _ _)) rfl) ?_
      refine o_val rfl rfl rfl (y_add rfl rfl (by simp only [inK]; omega)) ?_
      refine o_val rfl rfl rfl (y_assign (v := (.int _ _)) rfl) ?_
      refine o_nil ?_
      refine s_seq ?_
      refine s_region ?_
      refine o_val rfl rfl rfl (y_assign (v := (.int _ _)) rfl) ?_
      refine o_val rfl rfl rfl (y_assign (v := (.int _ _)) rfl) ?_
      refine o_nil ?_
      refine s_seq ?_
      refine s_seq ?_
      refine s_region ?_
      refine o_val rfl rfl rfl (y_move (v := (.int _ _)) rfl) ?_
      refine o_val rfl rfl rfl (y_move (v := (.int _ _)) rfl) ?_
      refine o_val rfl rfl rfl (y_gtr rfl rfl) ?_
      refine o_nil ?_
      refine s_if rfl (fun h17 => ?_) (fun h18 => ?_)
      · have hc3 := h17
        refine s_seq ?_
        refine s_region ?_
        refine o_val rfl rfl rfl (y_move (v := (.int _ _)) rfl) ?_
        refine o_val rfl rfl rfl (y_move (v := (.int _ _)) rfl) ?_
        refine o_val rfl rfl rfl (y_sub rfl rfl (by simp only [inK]; omega)) ?_
        refine o_val rfl rfl rfl (y_assign (v := (.int _ _)) rfl) ?_
        refine o_nil ?_
        refine s_region ?_
        refine o_val rfl rfl rfl (y_move (v := (.int _ _)) rfl) ?_
        refine o_val rfl rfl rfl (y_assign (v := (.int _ _)) rfl) ?_
        refine o_nil ?_
        refine s_seq ?_
        refine s_region ?_
        refine o_val rfl rfl rfl (y_move (v := (.int _ _)) rfl) ?_
        refine o_val rfl rfl rfl (y_sub rfl rfl (by simp only [inK]; omega)) ?_
        refine o_val rfl rfl rfl (y_assign (v := (.int _ _)) rfl) ?_
        refine o_nil ?_
        refine s_forget [(0, (.slice _ _ _)), (1, (.int _ _)), (2, (.int _ _)), (3, (.int _ _)), (4, (.func _ _ _)), (18, (.int _ _)), (19, (.int _ _)), (20, (.int _ _)), (21, (.int _ _)), (22, (.int _ _))] ⟨rfl, rfl, rfl, rfl, rfl, rfl, rfl, rfl, rfl, rfl, trivial⟩ (fun _f => ?_)
        refine s_seq ?_
        refine s_block ?_
        refine s_loopK (γ := Int) [(0, (.slice _ _ _)), (1, (.int _ _)), (2, (.int _ _)), (3, (.int _ _)), (4, (.func _ _ _)), (18, (.int _ _)), (19, (.int _ _)), (22, (.int _ _))] [] (fun g => [(20, .int .i64 g), (21, .int .i64 ((a + b) / 2))]) (fun g => []) (fun g => (((a + b) / 2) + m - b) ≤ g ∧ g ≤ ((a + b) / 2)) (fun g => (((a + b) / 2) - g).toNat) ((((a + b) / 2) + m - b)) ⟨rfl, rfl, rfl, rfl, rfl, rfl, rfl, rfl, rfl, rfl, trivial⟩ (sub_picks [] rfl) ?_ ?_
        · omega
        intro g _f hI
        obtain ⟨hg1, hg2⟩ := hI
        refine s_seq ?_
        refine s_seq ?_
        refine s_region ?_
        refine o_val rfl rfl rfl (y_move (v := (.int _ _)) rfl) ?_
        refine o_val rfl rfl rfl (y_move (v := (.int _ _)) rfl) ?_
        refine o_val rfl rfl rfl (y_lss rfl rfl) ?_
        refine o_nil ?_
        refine s_if rfl (fun h19 => ?_) (fun h20 => ?_)
        · refine s_skip ?_
          refine s_block ?_
          refine s_seq ?_
          refine s_region ?_
          refine o_val rfl rfl rfl (y_move (v := (.int _ _)) rfl) ?_
          refine o_val rfl rfl rfl (y_move (v := (.int _ _)) rfl) ?_
          refine o_val rfl rfl rfl (y_add rfl rfl (by simp only [inK]; omega)) ?_
          refine o_val rfl rfl rfl (y_conv Try.runUnderlying3 Try.runUnderlying164 rfl (by simp only [inK]; omega)) ?_
          refine o_val rfl rfl rfl ((y_shr rfl rfl (by omega)).int (half2 _)) ?_
          refine o_val rfl rfl rfl (y_conv Try.runUnderlying164 Try.runUnderlying3 rfl (by simp only [inK]; omega)) ?_
          refine o_val rfl rfl rfl (y_assign (v := (.int _ _)) rfl) ?_
          refine o_nil ?_
          refine s_forget [(0, (.slice _ _ _)), (1, (.int _ _)), (2, (.int _ _)), (3, (.int _ _)), (4, (.func _ _ _)), (18, (.int _ _)), (19, (.int _ _)), (20, (.int _ _)), (21, (.int _ _)), (22, (.int _ _)), (23, (.int _ _))] ⟨rfl, rfl, rfl, rfl, rfl, rfl, rfl, rfl, rfl, rfl, rfl, trivial⟩ (fun _f => ?_)
          refine s_seq ?_
          refine s_drawn 0 (by kernel_rfl) ?_
          refine d_val (i := 0) rfl (by kernel_rfl) (by kernel_rfl) (by kernel_rfl) rfl rfl rfl (y_move (v := (.func _ _ _)) rfl) ?_
          refine d_val (i := 1) rfl (by kernel_rfl) (by kernel_rfl) (by kernel_rfl) rfl rfl rfl (y_move (v := (.slice _ _ _)) rfl) ?_
          refine d_val (i := 2) rfl (by kernel_rfl) (by kernel_rfl) (by kernel_rfl) rfl rfl rfl (y_move (v := (.int _ _)) rfl) ?_
          refine d_val (i := 3) rfl (by kernel_rfl) (by kernel_rfl) (by kernel_rfl) rfl rfl rfl (y_move (v := (.int _ _)) rfl) ?_
          refine d_val (i := 4) rfl (by kernel_rfl) (by kernel_rfl) (by kernel_rfl) rfl rfl rfl (y_sub rfl rfl (by simp only [inK]; omega)) ?_
          refine d_val (i := 5) rfl (by kernel_rfl) (by kernel_rfl) (by kernel_rfl) rfl rfl rfl (y_indexAddr Try.runUnderlying39 Try.sizeOf147 (some_at (sz := 3) encOv_len (i := 0) h (by omega)) rfl rfl (by omega)) ?_
          refine d_val (i := 6) rfl (by kernel_rfl) (by kernel_rfl) (by kernel_rfl) rfl rfl rfl (y_loads (cs := [_, _, _, _]) Try.isAgg147 Try.sizeOf147 rfl (by unfold idx; rw [Option.isSome_map]; exact some_at (sz := 3) encOv_len (i := 0) h (by omega)) rfl (cels_at (sz := 4) encOv_len h.here (by omega))) ?_
          refine d_val (i := 7) rfl (by kernel_rfl) (by kernel_rfl) (by kernel_rfl) rfl rfl rfl (y_move (v := (.slice _ _ _)) rfl) ?_
          refine d_val (i := 8) rfl (by kernel_rfl) (by kernel_rfl) (by kernel_rfl) rfl rfl rfl (y_move (v := (.int _ _)) rfl) ?_
          refine d_val (i := 9) rfl (by kernel_rfl) (by kernel_rfl) (by kernel_rfl) rfl rfl rfl (y_indexAddr Try.runUnderlying39 Try.sizeOf147 (some_at (sz := 3) encOv_len (i := 0) h (by omega)) rfl rfl (by omega)) ?_
          refine d_val (i := 10) rfl (by kernel_rfl) (by kernel_rfl) (by kernel_rfl) rfl rfl rfl (y_loads (cs := [_, _, _, _]) Try.isAgg147 Try.sizeOf147 rfl (by unfold idx; rw [Option.isSome_map]; exact some_at (sz := 3) encOv_len (i := 0) h (by omega)) rfl (cels_at (sz := 4) encOv_len h.here (by omega))) ?_
          refine d_eff (k := 11) (n := 0) (m := 0) rfl (by kernel_rfl) rfl ?_
          refine o_fnv' 0 (d := 169) rfl hcall rfl rfl rfl (hf _ (xs.getD (((a + b) / 2) + m - 1 - (g + ((a + b) / 2)) / 2).toNat default) (xs.getD ((g + ((a + b) / 2)) / 2).toNat default) ((hX _ (getD_mem' (show (((a + b) / 2) + m - 1 - (g + ((a + b) / 2)) / 2).toNat < xs.length by omega) : (xs.getD (((a + b) / 2) + m - 1 - (g + ((a + b) / 2)) / 2).toNat default) ∈ xs)).sub MSub.ext) ((hX _ (getD_mem' (show ((g + ((a + b) / 2)) / 2).toNat < xs.length by omega) : (xs.getD ((g + ((a + b) / 2)) / 2).toNat default) ∈ xs)).sub MSub.ext)) ?_
          rintro _ _ ⟨rfl, rfl⟩
          have hge := hs ((g + ((a + b) / 2)) / 2) (((a + b) / 2) + m - 1 - (g + ((a + b) / 2)) / 2) (by omega) (by omega) (by omega)
          refine o_nil ?_
          refine d_val (i := 12) rfl (by kernel_rfl) (by kernel_rfl) (by kernel_rfl) rfl rfl rfl (y_lss rfl rfl) ?_
          refine d_val (i := 13) rfl (by kernel_rfl) (by kernel_rfl) (by kernel_rfl) rfl rfl rfl (y_not rfl) ?_
          refine d_nil (n := 0) (m := 0) (by kernel_rfl) rfl ?_
          refine s_forget [(0, (.slice _ _ _)), (1, (.int _ _)), (2, (.int _ _)), (3, (.int _ _)), (4, (.func _ _ _)), (18, (.int _ _)), (19, (.int _ _)), (20, (.int _ _)), (21, (.int _ _)), (22, (.int _ _)), (23, (.int _ _)), (171, (.bool _))] ⟨rfl, rfl, rfl, rfl, rfl, rfl, rfl, rfl, rfl, rfl, rfl, rfl, trivial⟩ (fun _f => ?_)
          refine s_if rfl (fun h21 => ?_) (fun h22 => ?_)
          · refine s_region ?_
            refine o_val rfl rfl rfl (y_move (v := (.int _ _)) rfl) ?_
            refine o_val rfl rfl rfl (y_add rfl rfl (by simp only [inK]; omega)) ?_
            refine o_val rfl rfl rfl (y_assign (v := (.int _ _)) rfl) ?_
            refine o_nil ?_
            exact ⟨(g + ((a + b) / 2)) / 2 + 1, (by omega), by omega, ⟨rfl, rfl, rfl, rfl, rfl, rfl, rfl, rfl, rfl, rfl, trivial⟩, (sub_picks [] rfl)⟩
          · exact absurd (show ¬ _ from by omega) h22
        · refine s_exit ?_
          refine s_seq ?_
          refine s_region ?_
          refine o_val rfl rfl rfl (y_move (v := (.int _ _)) rfl) ?_
          refine o_val rfl rfl rfl (y_move (v := (.int _ _)) rfl) ?_
          refine o_val rfl rfl rfl (y_sub rfl rfl (by simp only [inK]; omega)) ?_
          refine o_val rfl rfl rfl (y_assign (v := (.int _ _)) rfl) ?_
          refine o_nil ?_
          refine s_forget [(0, (.slice _ _ _)), (1, (.int _ _)), (2, (.int _ _)), (3, (.int _ _)), (4, (.func _ _ _)), (18, (.int _ _)), (20, (.int _ _)), (24, (.int _ _))] ⟨rfl, rfl, rfl, rfl, rfl, rfl, rfl, rfl, trivial⟩ (fun _f => ?_)
          refine s_seq ?_
          refine s_seq ?_
          refine s_region ?_
          refine o_val rfl rfl rfl (y_move (v := (.int _ _)) rfl) ?_
          refine o_val rfl rfl rfl (y_move (v := (.int _ _)) rfl) ?_
          refine o_split rfl rfl rfl (y_lss rfl rfl) (fun p23 => ?_) (fun p24 => ?_)
          · refine o_val rfl rfl rfl (y_move (v := (.bool _)) rfl) ?_
            refine o_guard_yes rfl rfl ?_
            refine o_val rfl rfl rfl (y_move (v := (.int _ _)) rfl) ?_
            refine o_guard_yes rfl rfl ?_
            refine o_val rfl rfl rfl (y_move (v := (.int _ _)) rfl) ?_
            refine o_guard_yes rfl rfl ?_
            refine o_val rfl rfl rfl (y_lss rfl rfl) ?_
            refine o_val rfl rfl rfl (y_pick_t (v := (.bool _)) rfl rfl) ?_
            refine o_nil ?_
            refine s_if rfl (fun h25 => ?_) (fun h26 => ?_)
            · exfalso; omega
            · refine s_skip ?_
              refine s_seq ?_
              refine s_seq ?_
              refine s_region ?_
              refine o_val rfl rfl rfl (y_move (v := (.int _ _)) rfl) ?_
              refine o_val rfl rfl rfl (y_move (v := (.int _ _)) rfl) ?_
              refine o_split rfl rfl rfl (y_lss rfl rfl) (fun p27 => ?_) (fun p28 => ?_)
              · refine o_val rfl rfl rfl (y_move (v := (.bool _)) rfl) ?_
                refine o_guard_yes rfl rfl ?_
                refine o_val rfl rfl rfl (y_move (v := (.int _ _)) rfl) ?_
                refine o_guard_yes rfl rfl ?_
                refine o_val rfl rfl rfl (y_move (v := (.int _ _)) rfl) ?_
                refine o_guard_yes rfl rfl ?_
                refine o_val rfl rfl rfl (y_lss rfl rfl) ?_
                refine o_val rfl rfl rfl (y_pick_t (v := (.bool _)) rfl rfl) ?_
                refine o_nil ?_
                refine s_forget [(0, (.slice _ _ _)), (1, (.int _ _)), (3, (.int _ _)), (4, (.func _ _ _)), (18, (.int _ _)), (20, (.int _ _)), (24, (.int _ _)), (199, (.bool _))] ⟨rfl, rfl, rfl, rfl, rfl, rfl, rfl, rfl, trivial⟩ (fun _f => ?_)
                refine s_if rfl (fun h29 => ?_) (fun h30 => ?_)
                · exfalso; omega
                · refine s_skip ?_
                  refine s_seq ?_
                  refine s_region ?_
                  refine o_val rfl rfl rfl (y_move (v := (.int _ _)) rfl) ?_
                  refine o_val rfl rfl rfl (y_move (v := (.int _ _)) rfl) ?_
                  refine o_split rfl rfl rfl (y_lss rfl rfl) (fun p31 => ?_) (fun p32 => ?_)
                  · refine o_val rfl rfl rfl (y_move (v := (.bool _)) rfl) ?_
                    refine o_guard_yes rfl rfl ?_
                    refine o_val rfl rfl rfl (y_move (v := (.int _ _)) rfl) ?_
                    refine o_guard_yes rfl rfl ?_
                    refine o_val rfl rfl rfl (y_move (v := (.int _ _)) rfl) ?_
                    refine o_guard_yes rfl rfl ?_
                    refine o_val rfl rfl rfl (y_lss rfl rfl) ?_
                    refine o_val rfl rfl rfl (y_pick_t (v := (.bool _)) rfl rfl) ?_
                    refine o_nil ?_
                    refine s_if rfl (fun h33 => ?_) (fun h34 => ?_)
                    · have hc5 := h33
                      refine s_region ?_
                      refine o_val rfl rfl rfl (y_move (v := (.slice _ _ _)) rfl) ?_
                      refine o_val rfl rfl rfl (y_move (v := (.int _ _)) rfl) ?_
                      refine o_val rfl rfl rfl (y_move (v := (.int _ _)) rfl) ?_
                      refine o_val rfl rfl rfl (y_move (v := (.int _ _)) rfl) ?_
                      refine o_val rfl rfl rfl (y_move (v := (.func _ _ _)) rfl) ?_
                      refine o_fn 0 (d := 219) rfl Try.call188 (ih (b - (((a + b) / 2))).toNat (by omega) A n c xs h.here.down hn hb (fun x hx => (hX x hx).sub MSub.ext) fid cap hcall cf hf hs ((a + b) / 2) (((a + b) / 2) + m - g) b rfl (by omega) (by omega) (by omega) (by omega)) rfl ?_
                      rintro _ _ ⟨rfl, rfl⟩
                      refine o_nil ?_
                      exact ⟨_, [], res0 rfl, ⟨rfl, rfl⟩, sub_picks [] rfl⟩
                    · exfalso; omega
                  · exfalso; omega
              · exfalso; omega
          · exfalso; omega
      · have hc3 := h18
        refine s_seq ?_
        refine s_region ?_
        refine o_val rfl rfl rfl (y_move (v := (.int _ _)) rfl) ?_
        refine o_val rfl rfl rfl (y_assign (v := (.int _ _)) rfl) ?_
        refine o_nil ?_
        refine s_region ?_
        refine o_val rfl rfl rfl (y_move (v := (.int _ _)) rfl) ?_
        refine o_val rfl rfl rfl (y_assign (v := (.int _ _)) rfl) ?_
        refine o_nil ?_
        refine s_seq ?_
        refine s_region ?_
        refine o_val rfl rfl rfl (y_move (v := (.int _ _)) rfl) ?_
        refine o_val rfl rfl rfl (y_sub rfl rfl (by simp only [inK]; omega)) ?_
        refine o_val rfl rfl rfl (y_assign (v := (.int _ _)) rfl) ?_
        refine o_nil ?_
        refine s_forget [(0, (.slice _ _ _)), (1, (.int _ _)), (2, (.int _ _)), (3, (.int _ _)), (4, (.func _ _ _)), (18, (.int _ _)), (19, (.int _ _)), (20, (.int _ _)), (21, (.int _ _)), (22, (.int _ _))] ⟨rfl, rfl, rfl, rfl, rfl, rfl, rfl, rfl, rfl, rfl, trivial⟩ (fun _f => ?_)
        refine s_seq ?_
        refine s_block ?_
        refine s_loopK (γ := Int) [(0, (.slice _ _ _)), (1, (.int _ _)), (2, (.int _ _)), (3, (.int _ _)), (4, (.func _ _ _)), (18, (.int _ _)), (19, (.int _ _)), (22, (.int _ _))] [] (fun g => [(20, .int .i64 g), (21, .int .i64 m)]) (fun g => []) (fun g => a ≤ g ∧ g ≤ m) (fun g => (m - g).toNat) (a) ⟨rfl, rfl, rfl, rfl, rfl, rfl, rfl, rfl, rfl, rfl, trivial⟩ (sub_picks [] rfl) ?_ ?_
        · omega
        intro g _f hI
        obtain ⟨hg1, hg2⟩ := hI
        refine s_seq ?_
        refine s_seq ?_
        refine s_region ?_
        refine o_val rfl rfl rfl (y_move (v := (.int _ _)) rfl) ?_
        refine o_val rfl rfl rfl (y_move (v := (.int _ _)) rfl) ?_
        refine o_val rfl rfl rfl (y_lss rfl rfl) ?_
        refine o_nil ?_
        refine s_if rfl (fun h35 => ?_) (fun h36 => ?_)
        · refine s_skip ?_
          refine s_block ?_
          refine s_seq ?_
          refine s_region ?_
          refine o_val rfl rfl rfl (y_move (v := (.int _ _)) rfl) ?_
          refine o_val rfl rfl rfl (y_move (v := (.int _ _)) rfl) ?_
          refine o_val rfl rfl rfl (y_add rfl rfl (by simp only [inK]; omega)) ?_
          refine o_val rfl rfl rfl (y_conv Try.runUnderlying3 Try.runUnderlying164 rfl (by simp only [inK]; omega)) ?_
          refine o_val rfl rfl rfl ((y_shr rfl rfl (by omega)).int (half2 _)) ?_
          refine o_val rfl rfl rfl (y_conv Try.runUnderlying164 Try.runUnderlying3 rfl (by simp only [inK]; omega)) ?_
          refine o_val rfl rfl rfl (y_assign (v := (.int _ _)) rfl) ?_
          refine o_nil ?_
          refine s_forget [(0, (.slice _ _ _)), (1, (.int _ _)), (2, (.int _ _)), (3, (.int _ _)), (4, (.func _ _ _)), (18, (.int _ _)), (19, (.int _ _)), (20, (.int _ _)), (21, (.int _ _)), (22, (.int _ _)), (23, (.int _ _))] ⟨rfl, rfl, rfl, rfl, rfl, rfl, rfl, rfl, rfl, rfl, rfl, trivial⟩ (fun _f => ?_)
          refine s_seq ?_
          refine s_drawn 0 (by kernel_rfl) ?_
          refine d_val (i := 0) rfl (by kernel_rfl) (by kernel_rfl) (by kernel_rfl) rfl rfl rfl (y_move (v := (.func _ _ _)) rfl) ?_
          refine d_val (i := 1) rfl (by kernel_rfl) (by kernel_rfl) (by kernel_rfl) rfl rfl rfl (y_move (v := (.slice _ _ _)) rfl) ?_
          refine d_val (i := 2) rfl (by kernel_rfl) (by kernel_rfl) (by kernel_rfl) rfl rfl rfl (y_move (v := (.int _ _)) rfl) ?_
          refine d_val (i := 3) rfl (by kernel_rfl) (by kernel_rfl) (by kernel_rfl) rfl rfl rfl (y_move (v := (.int _ _)) rfl) ?_
          refine d_val (i := 4) rfl (by kernel_rfl) (by kernel_rfl) (by kernel_rfl) rfl rfl rfl (y_sub rfl rfl (by simp only [inK]; omega)) ?_
          refine d_val (i := 5) rfl (by kernel_rfl) (by kernel_rfl) (by kernel_rfl) rfl rfl rfl (y_indexAddr Try.runUnderlying39 Try.sizeOf147 (some_at (sz := 3) encOv_len (i := 0) h (by omega)) rfl rfl (by omega)) ?_
          refine d_val (i := 6) rfl (by kernel_rfl) (by kernel_rfl) (by kernel_rfl) rfl rfl rfl (y_loads (cs := [_, _, _, _]) Try.isAgg147 Try.sizeOf147 rfl (by unfold idx; rw [Option.isSome_map]; exact some_at (sz := 3) encOv_len (i := 0) h (by omega)) rfl (cels_at (sz := 4) encOv_len h.here (by omega))) ?_
          refine d_val (i := 7) rfl (by kernel_rfl) (by kernel_rfl) (by kernel_rfl) rfl rfl rfl (y_move (v := (.slice _ _ _)) rfl) ?_
          refine d_val (i := 8) rfl (by kernel_rfl) (by kernel_rfl) (by kernel_rfl) rfl rfl rfl (y_move (v := (.int _ _)) rfl) ?_
          refine d_val (i := 9) rfl (by kernel_rfl) (by kernel_rfl) (by kernel_rfl) rfl rfl rfl (y_indexAddr Try.runUnderlying39 Try.sizeOf147 (some_at (sz := 3) encOv_len (i := 0) h (by omega)) rfl rfl (by omega)) ?_
          refine d_val (i := 10) rfl (by kernel_rfl) (by kernel_rfl) (by kernel_rfl) rfl rfl rfl (y_loads (cs := [_, _, _, _]) Try.isAgg147 Try.sizeOf147 rfl (by unfold idx; rw [Option.isSome_map]; exact some_at (sz := 3) encOv_len (i := 0) h (by omega)) rfl (cels_at (sz := 4) encOv_len h.here (by omega))) ?_
          refine d_eff (k := 11) (n := 0) (m := 0) rfl (by kernel_rfl) rfl ?_
          refine o_fnv' 0 (d := 169) rfl hcall rfl rfl rfl (hf _ (xs.getD (((a + b) / 2) + m - 1 - (g + m) / 2).toNat default) (xs.getD ((g + m) / 2).toNat default) ((hX _ (getD_mem' (show (((a + b) / 2) + m - 1 - (g + m) / 2).toNat < xs.length by omega) : (xs.getD (((a + b) / 2) + m - 1 - (g + m) / 2).toNat default) ∈ xs)).sub MSub.ext) ((hX _ (getD_mem' (show ((g + m) / 2).toNat < xs.length by omega) : (xs.getD ((g + m) / 2).toNat default) ∈ xs)).sub MSub.ext)) ?_
          rintro _ _ ⟨rfl, rfl⟩
          have hge := hs ((g + m) / 2) (((a + b) / 2) + m - 1 - (g + m) / 2) (by omega) (by omega) (by omega)
          refine o_nil ?_
          refine d_val (i := 12) rfl (by kernel_rfl) (by kernel_rfl) (by kernel_rfl) rfl rfl rfl (y_lss rfl rfl) ?_
          refine d_val (i := 13) rfl (by kernel_rfl) (by kernel_rfl) (by kernel_rfl) rfl rfl rfl (y_not rfl) ?_
          refine d_nil (n := 0) (m := 0) (by kernel_rfl) rfl ?_
          refine s_forget [(0, (.slice _ _ _)), (1, (.int _ _)), (2, (.int _ _)), (3, (.int _ _)), (4, (.func _ _ _)), (18, (.int _ _)), (19, (.int _ _)), (20, (.int _ _)), (21, (.int _ _)), (22, (.int _ _)), (23, (.int _ _)), (171, (.bool _))] ⟨rfl, rfl, rfl, rfl, rfl, rfl, rfl, rfl, rfl, rfl, rfl, rfl, trivial⟩ (fun _f => ?_)
          refine s_if rfl (fun h37 => ?_) (fun h38 => ?_)
          · refine s_region ?_
            refine o_val rfl rfl rfl (y_move (v := (.int _ _)) rfl) ?_
            refine o_val rfl rfl rfl (y_add rfl rfl (by simp only [inK]; omega)) ?_
            refine o_val rfl rfl rfl (y_assign (v := (.int _ _)) rfl) ?_
            refine o_nil ?_
            exact ⟨(g + m) / 2 + 1, (by omega), by omega, ⟨rfl, rfl, rfl, rfl, rfl, rfl, rfl, rfl, rfl, rfl, trivial⟩, (sub_picks [] rfl)⟩
          · exact absurd (show ¬ _ from by omega) h38
        · refine s_exit ?_
          refine s_seq ?_
          refine s_region ?_
          refine o_val rfl rfl rfl (y_move (v := (.int _ _)) rfl) ?_
          refine o_val rfl rfl rfl (y_move (v := (.int _ _)) rfl) ?_
          refine o_val rfl rfl rfl (y_sub rfl rfl (by simp only [inK]; omega)) ?_
          refine o_val rfl rfl rfl (y_assign (v := (.int _ _)) rfl) ?_
          refine o_nil ?_
          refine s_forget [(0, (.slice _ _ _)), (1, (.int _ _)), (2, (.int _ _)), (3, (.int _ _)), (4, (.func _ _ _)), (18, (.int _ _)), (20, (.int _ _)), (24, (.int _ _))] ⟨rfl, rfl, rfl, rfl, rfl, rfl, rfl, rfl, trivial⟩ (fun _f => ?_)
          refine s_seq ?_
          refine s_seq ?_
          refine s_region ?_
          refine o_val rfl rfl rfl (y_move (v := (.int _ _)) rfl) ?_
          refine o_val rfl rfl rfl (y_move (v := (.int _ _)) rfl) ?_
          refine o_split rfl rfl rfl (y_lss rfl rfl) (fun p39 => ?_) (fun p40 => ?_)
          · exfalso; omega
          · refine o_val rfl rfl rfl (y_move (v := (.bool _)) rfl) ?_
            refine o_guard_no rfl rfl rfl rfl rfl ?_
            refine o_guard_no rfl rfl rfl rfl rfl ?_
            refine o_guard_no rfl rfl rfl rfl rfl ?_
            refine o_val rfl rfl rfl (y_pick_f (v := (.bool _)) rfl rfl) ?_
            refine o_nil ?_
            refine s_else rfl ?_
            refine s_skip ?_
            refine s_seq ?_
            refine s_seq ?_
            refine s_region ?_
            refine o_val rfl rfl rfl (y_move (v := (.int _ _)) rfl) ?_
            refine o_val rfl rfl rfl (y_move (v := (.int _ _)) rfl) ?_
            refine o_split rfl rfl rfl (y_lss rfl rfl) (fun p41 => ?_) (fun p42 => ?_)
            · refine o_val rfl rfl rfl (y_move (v := (.bool _)) rfl) ?_
              refine o_guard_yes rfl rfl ?_
              refine o_val rfl rfl rfl (y_move (v := (.int _ _)) rfl) ?_
              refine o_guard_yes rfl rfl ?_
              refine o_val rfl rfl rfl (y_move (v := (.int _ _)) rfl) ?_
              refine o_guard_yes rfl rfl ?_
              refine o_val rfl rfl rfl (y_lss rfl rfl) ?_
              refine o_val rfl rfl rfl (y_pick_t (v := (.bool _)) rfl rfl) ?_
              refine o_nil ?_
              refine s_forget [(0, (.slice _ _ _)), (1, (.int _ _)), (3, (.int _ _)), (4, (.func _ _ _)), (18, (.int _ _)), (20, (.int _ _)), (24, (.int _ _)), (199, (.bool _))] ⟨rfl, rfl, rfl, rfl, rfl, rfl, rfl, rfl, trivial⟩ (fun _f => ?_)
              refine s_if rfl (fun h43 => ?_) (fun h44 => ?_)
              · have hc4 := h43
                refine s_region ?_
                refine o_val rfl rfl rfl (y_move (v := (.slice _ _ _)) rfl) ?_
                refine o_val rfl rfl rfl (y_move (v := (.int _ _)) rfl) ?_
                refine o_val rfl rfl rfl (y_move (v := (.int _ _)) rfl) ?_
                refine o_val rfl rfl rfl (y_move (v := (.int _ _)) rfl) ?_
                refine o_val rfl rfl rfl (y_move (v := (.func _ _ _)) rfl) ?_
                refine o_fn 0 (d := 205) rfl Try.call188 (ih ((((a + b) / 2)) - a).toNat (by omega) A n c xs h.here.down hn hb (fun x hx => (hX x hx).sub MSub.ext) fid cap hcall cf hf hs a g ((a + b) / 2) rfl (by omega) (by omega) (by omega) (by omega)) rfl ?_
                rintro _ _ ⟨rfl, rfl⟩
                refine o_nil ?_
                refine s_seq ?_
                refine s_region ?_
                refine o_val rfl rfl rfl (y_move (v := (.int _ _)) rfl) ?_
                refine o_val rfl rfl rfl (y_move (v := (.int _ _)) rfl) ?_
                refine o_split rfl rfl rfl (y_lss rfl rfl) (fun p45 => ?_) (fun p46 => ?_)
                · exfalso; omega
                · refine o_val rfl rfl rfl (y_move (v := (.bool _)) rfl) ?_
                  refine o_guard_no rfl rfl rfl rfl rfl ?_
                  refine o_guard_no rfl rfl rfl rfl rfl ?_
                  refine o_guard_no rfl rfl rfl rfl rfl ?_
                  refine o_val rfl rfl rfl (y_pick_f (v := (.bool _)) rfl rfl) ?_
                  refine o_nil ?_
                  refine s_forget [(0, (.slice _ _ _)), (3, (.int _ _)), (4, (.func _ _ _)), (18, (.int _ _)), (24, (.int _ _)), (213, (.bool _))] ⟨rfl, rfl, rfl, rfl, rfl, rfl, trivial⟩ (fun _f => ?_)
                  refine s_else rfl ?_
                  refine s_skip ?_
                  exact ⟨_, [], res0 rfl, ⟨rfl, rfl⟩, sub_picks [] rfl⟩
              · refine s_skip ?_
                refine s_seq ?_
                refine s_region ?_
                refine o_val rfl rfl rfl (y_move (v := (.int _ _)) rfl) ?_
                refine o_val rfl rfl rfl (y_move (v := (.int _ _)) rfl) ?_
                refine o_split rfl rfl rfl (y_lss rfl rfl) (fun p47 => ?_) (fun p48 => ?_)
                · exfalso; omega
                · refine o_val rfl rfl rfl (y_move (v := (.bool _)) rfl) ?_
                  refine o_guard_no rfl rfl rfl rfl rfl ?_
                  refine o_guard_no rfl rfl rfl rfl rfl ?_
                  refine o_guard_no rfl rfl rfl rfl rfl ?_
                  refine o_val rfl rfl rfl (y_pick_f (v := (.bool _)) rfl rfl) ?_
                  refine o_nil ?_
                  refine s_else rfl ?_
                  refine s_skip ?_
                  exact ⟨_, [], res0 rfl, ⟨rfl, rfl⟩, sub_picks [] rfl⟩
            · exfalso; omega

theorem StableO_c {V : Mem} (A : Option Addr) (n c : Nat) (xs : List OvR) (h : Cels V [] A (xs.flatMap encOv)) (hn : xs.length = n) (hb : n ≤ 1000000) (hX : ∀ x ∈ xs, OvOK V x) (fid : FuncId) (cap : List Value) (hcall : ∀ args w, (callFunc fid args).run Try.prog w = .ok (.enter fid args) w) (cf : OvR → OvR → Int) (hf : ∀ (V' : Mem) (x y : OvR) (hx : OvOK V' x) (hy : OvOK V' y), CallS Try.prog fid (([.agg #[.slice x.A x.n x.c, .int .i64 x.kind, .int .i64 x.field, .int .i64 x.val], .agg #[.slice y.A y.n y.c, .int .i64 y.kind, .int .i64 y.field, .int .i64 y.val]] : List Value) ++ cap).toArray V' [] (fun r L' => r = .int .i64 (cf x y) ∧ L' = [])) (hs : ∀ i j : Int, 0 ≤ i → i ≤ j → j < n → 0 ≤ cf (xs.getD j.toNat default) (xs.getD i.toNat default)) : CallS Try.prog 145 [.slice A n c, .int .i64 n, .func (.func fid) #[] cap.toArray].toArray V [] (fun r L' => r = .tuple #[] ∧ L' = []) := by
  refine callS Try.func145 rfl rfl (fun w0 => ?_)
  refine s_seq ?_
  refine s_region ?_
  refine o_val rfl rfl rfl (y_assign (v := (.int _ _)) rfl) ?_
  refine o_nil ?_
  refine s_seq ?_
  refine s_region ?_
  refine o_val rfl rfl rfl (y_move (v := (.int _ _)) rfl) ?_
  refine o_val rfl rfl rfl (y_assign (v := (.int _ _)) rfl) ?_
  refine o_val rfl rfl rfl (y_assign (v := (.int _ _)) rfl) ?_
  refine o_nil ?_
  refine s_seq ?_
  refine s_block ?_
  refine s_loopK (γ := Nat) [(0, (.slice _ _ _)), (1, (.int _ _)), (2, (.func _ _ _)), (6, (.int _ _))] [] (fun g => [(7, .int .i64 (20 * ((g : Nat) : Int))), (8, .int .i64 (20 * ((g : Nat) : Int) + 20))]) (fun g => []) (fun g => 20 * ((g : Nat) : Int) ≤ n) (fun g => n - 20 * g) (0) ⟨rfl, rfl, rfl, rfl, rfl, rfl, trivial⟩ (sub_picks [] rfl) ?_ ?_
  · omega
  intro g _f hI
  have hg := hI
  refine s_seq ?_
  refine s_seq ?_
  refine s_region ?_
  refine o_val rfl rfl rfl (y_move (v := (.int _ _)) rfl) ?_
  refine o_val rfl rfl rfl (y_move (v := (.int _ _)) rfl) ?_
  refine o_val rfl rfl rfl (y_leq rfl rfl) ?_
  refine o_nil ?_
  refine s_if rfl (fun h1 => ?_) (fun h2 => ?_)
  · refine s_skip ?_
    refine s_block ?_
    refine s_seq ?_
    refine s_region ?_
    refine o_val rfl rfl rfl (y_move (v := (.slice _ _ _)) rfl) ?_
    refine o_val rfl rfl rfl (y_move (v := (.int _ _)) rfl) ?_
    refine o_val rfl rfl rfl (y_move (v := (.int _ _)) rfl) ?_
    refine o_val rfl rfl rfl (y_move (v := (.func _ _ _)) rfl) ?_
    refine o_fn 0 (d := 18) rfl Try.call187 (InsS_c A n c xs h.here.down hn hb (fun x hx => (hX x hx).sub MSub.ext) fid cap hcall cf hf hs (20 * ((g : Nat) : Int)) (20 * ((g : Nat) : Int) + 20) (by omega) (by omega)) rfl ?_
    rintro _ _ ⟨rfl, rfl⟩
    refine o_nil ?_
    refine s_forget [(0, (.slice _ _ _)), (1, (.int _ _)), (2, (.func _ _ _)), (6, (.int _ _)), (7, (.int _ _)), (8, (.int _ _))] ⟨rfl, rfl, rfl, rfl, rfl, rfl, trivial⟩ (fun _f => ?_)
    refine s_seq ?_
    refine s_region ?_
    refine o_val rfl rfl rfl (y_move (v := (.int _ _)) rfl) ?_
    refine o_val rfl rfl rfl (y_assign (v := (.int _ _)) rfl) ?_
    refine o_nil ?_
    refine s_region ?_
    refine o_val rfl rfl rfl (y_move (v := (.int _ _)) rfl) ?_
    refine o_val rfl rfl rfl (y_move (v := (.int _ _)) rfl) ?_
    refine o_val rfl rfl rfl (y_add rfl rfl (by simp only [inK]; omega)) ?_
    refine o_val rfl rfl rfl (y_assign (v := (.int _ _)) rfl) ?_
    refine o_nil ?_
    exact ⟨g + 1, (by omega), by omega, ⟨(congrArg (Value.int .i64) (by omega)), (congrArg (Value.int .i64) (by omega)), rfl, rfl, rfl, rfl, trivial⟩, (sub_picks [] rfl)⟩
  · refine s_exit ?_
    refine s_seq ?_
    refine s_region ?_
    refine o_val rfl rfl rfl (y_move (v := (.slice _ _ _)) rfl) ?_
    refine o_val rfl rfl rfl (y_move (v := (.int _ _)) rfl) ?_
    refine o_val rfl rfl rfl (y_move (v := (.int _ _)) rfl) ?_
    refine o_val rfl rfl rfl (y_move (v := (.func _ _ _)) rfl) ?_
    refine o_fn 0 (d := 27) rfl Try.call187 (InsS_c A n c xs h.here.down hn hb (fun x hx => (hX x hx).sub MSub.ext) fid cap hcall cf hf hs (20 * ((g : Nat) : Int)) ((n : Int)) (by omega) (by omega)) rfl ?_
    rintro _ _ ⟨rfl, rfl⟩
    refine o_nil ?_
    refine s_forget [(0, (.slice _ _ _)), (1, (.int _ _)), (2, (.func _ _ _)), (6, (.int _ _)), (7, (.int _ _)), (8, (.int _ _))] ⟨rfl, rfl, rfl, rfl, rfl, rfl, trivial⟩ (fun _f => ?_)
    refine s_block ?_
    refine s_loopK (γ := Int) [(0, (.slice _ _ _)), (1, (.int _ _)), (2, (.func _ _ _))] [] (fun u => [(6, .int .i64 u)]) (fun u => []) (fun u => 1 ≤ u ∧ u ≤ 4000000) (fun u => ((n : Int) - u).toNat) (20) ⟨rfl, rfl, rfl, rfl, trivial⟩ (sub_picks [] rfl) ?_ ?_
    · omega
    intro u _f hU
    obtain ⟨hu1, hu2⟩ := hU
    refine s_seq ?_
    refine s_seq ?_
    refine s_region ?_
    refine o_val rfl rfl rfl (y_move (v := (.int _ _)) rfl) ?_
    refine o_val rfl rfl rfl (y_move (v := (.int _ _)) rfl) ?_
    refine o_val rfl rfl rfl (y_lss rfl rfl) ?_
    refine o_nil ?_
    refine s_if rfl (fun h3 => ?_) (fun h4 => ?_)
    · refine s_skip ?_
      refine s_block ?_
      refine s_seq ?_
      refine s_region ?_
      refine o_val rfl rfl rfl (y_move (v := (.int _ _)) rfl) ?_
      refine o_val rfl rfl rfl (y_mul rfl rfl (by simp only [inK]; omega)) ?_
      refine o_val rfl rfl rfl (y_assign (v := (.int _ _)) rfl) ?_
      refine o_val rfl rfl rfl (y_assign (v := (.int _ _)) rfl) ?_
      refine o_nil ?_
      refine s_seq ?_
      refine s_block ?_
      refine s_loopK (γ := Int) [(0, (.slice _ _ _)), (1, (.int _ _)), (2, (.func _ _ _)), (6, (.int _ _))] [] (fun v => [(7, .int .i64 v), (8, .int .i64 (v + 2 * u))]) (fun v => []) (fun v => 0 ≤ v ∧ v ≤ n) (fun v => ((n : Int) - v).toNat) (0) ⟨rfl, (congrArg (Value.int .i64) (by omega)), rfl, rfl, rfl, rfl, trivial⟩ (sub_picks [] rfl) ?_ ?_
      · omega
      intro v _f hV
      obtain ⟨hv1, hv2⟩ := hV
      refine s_seq ?_
      refine s_seq ?_
      refine s_region ?_
      refine o_val rfl rfl rfl (y_move (v := (.int _ _)) rfl) ?_
      refine o_val rfl rfl rfl (y_move (v := (.int _ _)) rfl) ?_
      refine o_val rfl rfl rfl (y_leq rfl rfl) ?_
      refine o_nil ?_
      refine s_if rfl (fun h5 => ?_) (fun h6 => ?_)
      · refine s_skip ?_
        refine s_block ?_
        refine s_seq ?_
        refine s_region ?_
        refine o_val rfl rfl rfl (y_move (v := (.slice _ _ _)) rfl) ?_
        refine o_val rfl rfl rfl (y_move (v := (.int _ _)) rfl) ?_
        refine o_val rfl rfl rfl (y_move (v := (.int _ _)) rfl) ?_
        refine o_val rfl rfl rfl (y_move (v := (.int _ _)) rfl) ?_
        refine o_val rfl rfl rfl (y_add rfl rfl (by simp only [inK]; omega)) ?_
        refine o_val rfl rfl rfl (y_move (v := (.int _ _)) rfl) ?_
        refine o_val rfl rfl rfl (y_move (v := (.func _ _ _)) rfl) ?_
        refine o_fn 0 (d := 43) rfl Try.call188 (SymM_c _ A n c xs h.here.down hn hb (fun x hx => (hX x hx).sub MSub.ext) fid cap hcall cf hf hs (v) (v + u) (v + 2 * u) rfl (by omega) (by omega) (by omega) (by omega)) rfl ?_
        rintro _ _ ⟨rfl, rfl⟩
        refine o_nil ?_
        refine s_forget [(0, (.slice _ _ _)), (1, (.int _ _)), (2, (.func _ _ _)), (6, (.int _ _)), (7, (.int _ _)), (8, (.int _ _))] ⟨rfl, rfl, rfl, rfl, rfl, rfl, trivial⟩ (fun _f => ?_)
        refine s_seq ?_
        refine s_region ?_
        refine o_val rfl rfl rfl (y_move (v := (.int _ _)) rfl) ?_
        refine o_val rfl rfl rfl (y_assign (v := (.int _ _)) rfl) ?_
        refine o_nil ?_
        refine s_region ?_
        refine o_val rfl rfl rfl (y_move (v := (.int _ _)) rfl) ?_
        refine o_val rfl rfl rfl (y_move (v := (.int _ _)) rfl) ?_
        refine o_val rfl rfl rfl (y_mul rfl rfl (by simp only [inK]; omega)) ?_
        refine o_val rfl rfl rfl (y_add rfl rfl (by simp only [inK]; omega)) ?_
        refine o_val rfl rfl rfl (y_assign (v := (.int _ _)) rfl) ?_
        refine o_nil ?_
        exact ⟨v + 2 * u, (by omega), by omega, ⟨rfl, rfl, rfl, rfl, rfl, rfl, trivial⟩, (sub_picks [] rfl)⟩
      · refine s_exit ?_
        refine s_seq ?_
        refine s_seq ?_
        refine s_region ?_
        refine o_val rfl rfl rfl (y_move (v := (.int _ _)) rfl) ?_
        refine o_val rfl rfl rfl (y_move (v := (.int _ _)) rfl) ?_
        refine o_val rfl rfl rfl (y_add rfl rfl (by simp only [inK]; omega)) ?_
        refine o_val rfl rfl rfl (y_assign (v := (.int _ _)) rfl) ?_
        refine o_nil ?_
        refine s_seq ?_
        refine s_region ?_
        refine o_val rfl rfl rfl (y_move (v := (.int _ _)) rfl) ?_
        refine o_val rfl rfl rfl (y_move (v := (.int _ _)) rfl) ?_
        refine o_val rfl rfl rfl (y_lss rfl rfl) ?_
        refine o_nil ?_
        refine s_forget [(0, (.slice _ _ _)), (1, (.int _ _)), (2, (.func _ _ _)), (6, (.int _ _)), (7, (.int _ _)), (9, (.int _ _)), (54, (.bool _))] ⟨rfl, rfl, rfl, rfl, rfl, rfl, rfl, trivial⟩ (fun _f => ?_)
        refine s_if rfl (fun h7 => ?_) (fun h8 => ?_)
        · have hc := h7
          refine s_region ?_
          refine o_val rfl rfl rfl (y_move (v := (.slice _ _ _)) rfl) ?_
          refine o_val rfl rfl rfl (y_move (v := (.int _ _)) rfl) ?_
          refine o_val rfl rfl rfl (y_move (v := (.int _ _)) rfl) ?_
          refine o_val rfl rfl rfl (y_move (v := (.int _ _)) rfl) ?_
          refine o_val rfl rfl rfl (y_move (v := (.func _ _ _)) rfl) ?_
          refine o_fn 0 (d := 60) rfl Try.call188 (SymM_c _ A n c xs h.here.down hn hb (fun x hx => (hX x hx).sub MSub.ext) fid cap hcall cf hf hs (v) (v + u) ((n : Int)) rfl (by omega) (by omega) (by omega) (by omega)) rfl ?_
          rintro _ _ ⟨rfl, rfl⟩
          refine o_nil ?_
          refine s_region ?_
          refine o_val rfl rfl rfl (y_move (v := (.int _ _)) rfl) ?_
          refine o_val rfl rfl rfl (y_mul rfl rfl (by simp only [inK]; omega)) ?_
          refine o_val rfl rfl rfl (y_assign (v := (.int _ _)) rfl) ?_
          refine o_nil ?_
          exact ⟨u * 2, (by omega), by omega, ⟨rfl, rfl, rfl, rfl, trivial⟩, (sub_picks [] rfl)⟩
        · refine s_skip ?_
          refine s_region ?_
          refine o_val rfl rfl rfl (y_move (v := (.int _ _)) rfl) ?_
          refine o_val rfl rfl rfl (y_mul rfl rfl (by simp only [inK]; omega)) ?_
          refine o_val rfl rfl rfl (y_assign (v := (.int _ _)) rfl) ?_
          refine o_nil ?_
          exact ⟨u * 2, (by omega), by omega, ⟨rfl, rfl, rfl, rfl, trivial⟩, (sub_picks [] rfl)⟩
    · refine s_exit ?_
      exact ⟨_, [], res0 rfl, ⟨rfl, rfl⟩, sub_picks [] rfl⟩

theorem SortO_c {V : Mem} (A : Option Addr) (n c : Nat) (xs : List OvR) (h : Cels V [] A (xs.flatMap encOv)) (hn : xs.length = n) (hb : n ≤ 1000000) (hX : ∀ x ∈ xs, OvOK V x) (fid : FuncId) (cap : List Value) (hcall : ∀ args w, (callFunc fid args).run Try.prog w = .ok (.enter fid args) w) (cf : OvR → OvR → Int) (hf : ∀ (V' : Mem) (x y : OvR) (hx : OvOK V' x) (hy : OvOK V' y), CallS Try.prog fid (([.agg #[.slice x.A x.n x.c, .int .i64 x.kind, .int .i64 x.field, .int .i64 x.val], .agg #[.slice y.A y.n y.c, .int .i64 y.kind, .int .i64 y.field, .int .i64 y.val]] : List Value) ++ cap).toArray V' [] (fun r L' => r = .int .i64 (cf x y) ∧ L' = [])) (hs : ∀ i j : Int, 0 ≤ i → i ≤ j → j < n → 0 ≤ cf (xs.getD j.toNat default) (xs.getD i.toNat default)) : CallS Try.prog 67 [.slice A n c, .func (.func fid) #[] cap.toArray].toArray V [] (fun r L' => r = .tuple #[] ∧ L' = []) := by
  refine callS Try.func67 rfl rfl (fun w0 => ?_)
  refine s_region ?_
  refine o_val rfl rfl rfl (y_move (v := (.slice _ _ _)) rfl) ?_
  refine o_val rfl rfl rfl (y_move (v := (.slice _ _ _)) rfl) ?_
  refine o_val rfl rfl rfl (y_len Try.runUnderlying39 rfl) ?_
  refine o_val rfl rfl rfl (y_move (v := (.func _ _ _)) rfl) ?_
  refine o_fn 0 (d := 8) rfl Try.call145 (StableO_c A n c xs h.here.down hn hb (fun x hx => (hX x hx).sub MSub.ext) fid cap hcall cf hf hs) rfl ?_
  rintro _ _ ⟨rfl, rfl⟩
  refine o_nil ?_
  exact ⟨_, [], res0 rfl, ⟨rfl, rfl⟩, sub_picks [] rfl⟩

end Go.Proofs.Ytacmbiohjiogiaa.K
