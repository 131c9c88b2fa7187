/- Walks: the law that the difference of lists with few different elements is small. No condition beyond what each statement names. -/
import Derived.Test.YtppciokaldmipaaProg
import Derived.Test.YtppciokaldmipaaB8
import Derived.Test.YtppciokaldmipaaI1
import Derived.Test.YtppciokaldmipaaI4
import Derived.Test.YtppciokaldmipaaI9
import Derived.Test.YtppciokaldmipaaI10
import Derived.Test.YtppciokaldmipaaD1
import Derived.Test.YtppciokaldmipaaD2
import Derived.Test.YtppciokaldmipaaD3
import Derived.Test.YtppciokaldmipaaD4
import Derived.Test.YtppciokaldmipaaD5
import Derived.Test.YtppciokaldmipaaD6
import Derived.Test.YtppciokaldmipaaD7
import Derived.Test.YtppciokaldmipaaD8
set_option linter.unusedVariables false
set_option linter.unusedSimpArgs false
set_option maxRecDepth 100000
namespace Go.Proofs.Ytppciokaldmipaa.K
open Go.RowKit

/-- How many of the first elements are others than before. -/
def ndTo (xs zs : List Int) : Nat → Nat
  | 0 => 0
  | k + 1 => ndTo xs zs k + (if zs.getD k 0 = base xs k then 0 else 1)
theorem nd_same (xs : List Int) : ∀ k, ndTo xs xs k = 0
  | 0 => rfl
  | k + 1 => by simp only [ndTo, nd_same xs k]; rw [if_pos (show xs.getD k 0 = base xs k from rfl)]
theorem getD_set_ne {zs : List Int} {j k : Nat} {z : Int} (h : j ≠ k) : (zs.set j z).getD k 0 = zs.getD k 0 := by
  simp only [List.getD_eq_getElem?_getD, List.getElem?_set, if_neg h]
theorem nd_set (xs zs : List Int) (j : Nat) (z : Int) : ∀ k, ndTo xs (zs.set j z) k ≤ ndTo xs zs k + (if j < k then 1 else 0)
  | 0 => by simp [ndTo]
  | k + 1 => by
    have ih := nd_set xs zs j z k
    simp only [ndTo]
    by_cases e : j = k
    · subst e
      rw [if_neg (Nat.lt_irrefl _)] at ih
      rw [if_pos (Nat.lt_succ_self _)]
      split <;> split <;> omega
    · rw [getD_set_ne e]
      by_cases h : j < k
      · rw [if_pos h] at ih; rw [if_pos (show j < k + 1 by omega)]; omega
      · rw [if_neg h] at ih; rw [if_neg (show ¬ j < k + 1 by omega)]; omega
theorem natB_small {v : Nat} (h : v < 4096) : (natB v).length ≤ 15 := by
  rw [natB_len]
  have hg := grp_is v
  by_cases e : grp v ≤ 3
  · omega
  · exact absurd (Nat.div_eq_of_lt (show v < 16 ^ 3 by omega)) (hg.2.2 3 (by omega) (by omega))
theorem dBits_nd (xs zs : List Int) : ∀ k, k ≤ 1000 → (dBits xs zs k).length ≤ 95 * ndTo xs zs k
  | 0, _ => by simp [dBits]
  | k + 1, hk => by
    have ih := dBits_nd xs zs k (by omega)
    have h1 := natB_small (v := dRun xs zs k) (by have := dRun_le xs zs k; omega)
    have h2 := (natB_bd (v := zz (dd xs zs k)) (zz_lt (dd_in xs zs k))).2
    simp only [dBits, ndTo]
    split
    · rename_i h; omega
    · rename_i h; simp only [List.length_append]; omega
theorem dAll_nd {s1 s2 : Int} {xs zs : List Int} (h : zs.length ≤ 1000) : (dAll s1 s2 xs zs).length ≤ 158 + 95 * ndTo xs zs zs.length := by
  have h1 := dBits_nd xs zs zs.length h
  have h2 := natB_small (v := zs.length) (by omega)
  have h3 : (dTail xs zs zs.length).length ≤ 15 := by
    unfold dTail; split
    · exact natB_small (by have := dRun_le xs zs zs.length; omega)
    · exact Nat.zero_le _
  unfold dAll dHead
  simp only [List.length_append, bitsOf_len]; omega
theorem all_set {zs : List Int} {j : Nat} {z : Int} (h : ∀ x ∈ zs, inK .i64 x) (hz : inK .i64 z) : ∀ x ∈ zs.set j z, inK .i64 x := by
  intro x hx
  rcases List.mem_or_eq_of_mem_set hx with hx | rfl
  · exact h x hx
  · exact hz

theorem DeltaSmall_c {V : Mem} (A : Option Addr) (n c : Nat) (xs : List Int) (h : Cels V [] A (xs.map (.int .i64))) (hn : xs.length = n) (hxi : ∀ x ∈ xs, inK .i64 x) (hb : n ≤ 17592186044416) (B : Option Addr) (m d : Nat) (is : List Int) (h' : Cels V [] B (is.map (.int .i64))) (hm : is.length = m) (hbm : m ≤ 17592186044416) (C : Option Addr) (k e : Nat) (vs : List Int) (h2 : Cels V [] C (vs.map (.int .i64))) (hk : vs.length = k) (hvi : ∀ x ∈ vs, inK .i64 x) : CallS Try.prog 14 [.slice A n c, .slice B m d, .slice C k e].toArray V [] (fun r L' => r = .bool true ∧ L' = []) := by
  refine callS Try.func14 rfl rfl (fun w0 => ?_)
  refine s_seq ?_
  refine s_region ?_
  refine o_val rfl rfl rfl (y_assign (v := (.bool _)) rfl) ?_
  refine o_nil ?_
  refine s_seq ?_
  refine s_region ?_
  refine o_val rfl rfl rfl (y_move (v := (.slice _ _ _)) rfl) ?_
  refine o_fn 0 (d := 15) rfl Try.call61 (CloneN_c _ _ _ xs h.here.down hn (by omega)) rfl ?_
  rintro _ _ ⟨CR, cc, CG, rfl, co, rfl⟩
  refine o_val rfl rfl rfl (y_assign (v := (.slice _ _ _)) rfl) ?_
  refine o_nil ?_
  refine s_seq ?_
  refine s_seq ?_
  refine s_region ?_
  refine o_val rfl rfl rfl (y_move (v := (.slice _ _ _)) rfl) ?_
  refine o_val rfl rfl rfl (y_len Try.runUnderlying41 rfl) ?_
  refine o_val rfl rfl rfl (y_move (v := (.int _ _)) rfl) ?_
  refine o_nil ?_
  refine s_block ?_
  refine s_loop (γ := Nat × Grp × List Int) (fun g => [(0, .slice A n c), (1, .slice B m d), (2, .slice C k e), (7, .slice CR n cc), (16, .slice B m d), (17, .int .i64 m), (18, .int .i64 g.1)]) (fun g => [g.2.1]) (fun g => g.1 ≤ m ∧ OS CR n cc 3 1 (g.2.2.map (.int .i64)) g.2.1 ∧ g.2.2.length = n ∧ (∀ x ∈ g.2.2, inK .i64 x) ∧ ndTo xs g.2.2 n ≤ g.1) (fun g => m - g.1) ((0, CG, xs)) ?_ ⟨rfl, rfl, rfl, rfl, rfl, rfl, rfl, trivial⟩ (sub_front ⟨_, rfl⟩) ?_
  · exact ⟨Nat.zero_le _, co, hn, hxi, Nat.le_of_eq (nd_same xs n)⟩
  · intro g _f hI
    obtain ⟨hg, ho, hzl, hzi, hnd⟩ := hI
    have hzl2 := hzl
    refine s_seq ?_
    refine s_region ?_
    refine o_val rfl rfl rfl (y_lss rfl rfl) ?_
    refine o_nil ?_
    refine s_seq ?_
    refine s_if rfl (fun h1 => ?_) (fun h2 => ?_)
    · refine s_skip ?_
      refine s_seq ?_
      refine s_block ?_
      refine s_seq ?_
      refine s_region ?_
      refine o_val rfl rfl rfl (y_move (v := (.int _ _)) rfl) ?_
      refine o_val rfl rfl rfl (y_index1 Try.runUnderlying41 Try.sizeOf3 (some_int (i := 0) h' (by omega)) rfl rfl (by omega)) ?_
      refine o_val rfl rfl rfl (y_load Try.isAgg3 rfl (cel_int h'.here (by omega))) ?_
      refine o_val rfl rfl rfl (y_assign (v := (.int _ _)) rfl) ?_
      refine o_val rfl rfl rfl (y_assign (v := (.int _ _)) rfl) ?_
      refine o_nil ?_
      refine s_seq ?_
      refine s_region ?_
      refine o_val rfl rfl rfl (y_move (v := (.slice _ _ _)) rfl) ?_
      refine o_val rfl rfl rfl (y_len Try.runUnderlying41 rfl) ?_
      refine o_split rfl rfl rfl (y_gtr rfl rfl) (fun p3 => ?_) (fun p4 => ?_)
      · have hpos := p3
        refine o_val rfl rfl rfl (y_move (v := (.bool _)) rfl) ?_
        refine o_guard_yes rfl rfl ?_
        refine o_val rfl rfl rfl (y_move (v := (.int _ _)) rfl) ?_
        refine o_guard_yes rfl rfl ?_
        refine o_val rfl rfl rfl (y_move (v := (.slice _ _ _)) rfl) ?_
        refine o_guard_yes rfl rfl ?_
        refine o_val rfl rfl rfl (y_len Try.runUnderlying41 rfl) ?_
        refine o_guard_yes rfl rfl ?_
        refine o_val rfl rfl rfl (y_lss rfl rfl) ?_
        refine o_val rfl rfl rfl (y_pick_t (v := (.bool _)) rfl rfl) ?_
        refine o_nil ?_
        refine s_if rfl (fun h5 => ?_) (fun h6 => ?_)
        · have hik := h5
          refine s_drawn 1 (by kernel_rfl) ?_
          refine d_val (i := 0) rfl (by kernel_rfl) (by kernel_rfl) (by kernel_rfl) rfl rfl rfl (y_move (v := (.slice _ _ _)) rfl) ?_
          refine d_val (i := 1) rfl (by kernel_rfl) (by kernel_rfl) (by kernel_rfl) rfl rfl rfl (y_move (v := (.int _ _)) rfl) ?_
          refine d_val (i := 2) rfl (by kernel_rfl) (by kernel_rfl) (by kernel_rfl) rfl rfl rfl (y_move (v := (.slice _ _ _)) rfl) ?_
          refine d_val (i := 3) rfl (by kernel_rfl) (by kernel_rfl) (by kernel_rfl) rfl rfl rfl (y_len Try.runUnderlying41 rfl) ?_
          refine d_val (i := 5) rfl (by kernel_rfl) (by kernel_rfl) (by kernel_rfl) rfl rfl rfl (y_move (v := (.slice _ _ _)) rfl) ?_
          refine d_val (i := 6) rfl (by kernel_rfl) (by kernel_rfl) (by kernel_rfl) rfl rfl rfl (y_move (v := (.int _ _)) rfl) ?_
          refine d_val (i := 7) rfl (by kernel_rfl) (by kernel_rfl) (by kernel_rfl) rfl rfl rfl (y_index1 Try.runUnderlying41 Try.sizeOf3 (some_int (i := 0) h2 (by omega)) rfl rfl (by omega)) ?_
          refine d_val (i := 8) rfl (by kernel_rfl) (by kernel_rfl) (by kernel_rfl) rfl rfl rfl (y_load Try.isAgg3 rfl (cel_int h2.here (by omega))) ?_
          refine d_eff (k := 4) (n := 0) (m := 0) rfl (by kernel_rfl) rfl ?_
          refine o_fn 0 (d := 36) rfl Try.call38 (Below_c _ _ (by omega)) rfl ?_
          rintro _ _ ⟨kk, rfl, hk0, hk1, rfl⟩
          refine o_nil ?_
          refine d_val (i := 9) rfl (by kernel_rfl) (by kernel_rfl) (by kernel_rfl) rfl rfl rfl (y_index1 Try.runUnderlying41 Try.sizeOf3 (ho.some_of (by omega)) rfl rfl (by omega)) ?_
          refine d_eff (k := 10) (n := 0) (m := 0) rfl (by kernel_rfl) rfl ?_
          refine o_store_os (vs := [(.int _ _)]) 0 rfl ho Try.sizeOf3 rfl rfl rfl (by simp [Value.oneCell']) (by simp) (by (try simp); omega) (fun E7 ho8 => ?_)
          have ho9 := os_lay_int ho8 (by (try simp); omega)
          clear ho8
          refine o_nil ?_
          refine d_nil (n := 0) (m := 0) (by kernel_rfl) rfl ?_
          refine s_region ?_
          refine o_val rfl rfl rfl (y_add rfl rfl (by simp only [inK]; omega)) ?_
          refine o_val rfl rfl rfl (y_move (v := (.int _ _)) rfl) ?_
          refine o_nil ?_
          exact ⟨(g.1 + 1, E7, _), (by first | omega | (dsimp only; omega)), ⟨by dsimp only; omega, ho9, by rw [List.length_set]; exact hzl, all_set hzi (hvi _ (getD_mem (by omega))), Nat.le_trans (nd_set xs g.2.2 _ _ _) (by split <;> (dsimp only; omega))⟩, ⟨rfl, rfl, rfl, rfl, rfl, rfl, (congrArg (Value.int _) (by dsimp only; omega)), trivial⟩, sub_picks [0] rfl⟩
        · refine s_skip ?_
          refine s_region ?_
          refine o_val rfl rfl rfl (y_add rfl rfl (by simp only [inK]; omega)) ?_
          refine o_val rfl rfl rfl (y_move (v := (.int _ _)) rfl) ?_
          refine o_nil ?_
          exact ⟨(g.1 + 1, g.2), (by first | omega | (dsimp only; omega)), ⟨by dsimp only; omega, ho, hzl, hzi, by dsimp only; omega⟩, ⟨rfl, rfl, rfl, rfl, rfl, rfl, (congrArg (Value.int _) (by dsimp only; omega)), trivial⟩, sub_picks [0] rfl⟩
      · refine o_val rfl rfl rfl (y_move (v := (.bool _)) rfl) ?_
        refine o_guard_no rfl rfl rfl rfl rfl ?_
        refine o_guard_no rfl rfl rfl rfl rfl ?_
        refine o_guard_no rfl rfl rfl rfl rfl ?_
        refine o_guard_no rfl rfl rfl rfl rfl ?_
        refine o_val rfl rfl rfl (y_pick_f (v := (.bool _)) rfl rfl) ?_
        refine o_nil ?_
        refine s_else rfl ?_
        refine s_skip ?_
        refine s_region ?_
        refine o_val rfl rfl rfl (y_add rfl rfl (by simp only [inK]; omega)) ?_
        refine o_val rfl rfl rfl (y_move (v := (.int _ _)) rfl) ?_
        refine o_nil ?_
        exact ⟨(g.1 + 1, g.2), (by first | omega | (dsimp only; omega)), ⟨by dsimp only; omega, ho, hzl, hzi, by dsimp only; omega⟩, ⟨rfl, rfl, rfl, rfl, rfl, rfl, (congrArg (Value.int _) (by dsimp only; omega)), trivial⟩, sub_picks [0] rfl⟩
    · refine s_exit ?_
      refine s_seq ?_
      refine s_region ?_
      refine o_val rfl rfl rfl (y_move (v := (.slice _ _ _)) rfl) ?_
      refine o_val rfl rfl rfl (y_move (v := (.slice _ _ _)) rfl) ?_
      refine o_fn 0 (d := 46) rfl Try.call58 (Ints_c _ _ _ xs h.here.down hn _ _ _ g.2.2 (ho.cels (j := 0) rfl).down hzl) rfl ?_
      rintro _ _ ⟨iR, ik, ie, ibs, iG, ier, rfl, io, rfl, in_⟩
      have hil : ibs.length = ik := by simpa using io.len
      refine o_val rfl rfl rfl (y_move (v := (.tuple #[(.slice _ _ _), (.int _ _)])) rfl) ?_
      refine o_val rfl rfl rfl (y_extract (v := (.slice _ _ _)) rfl rfl) ?_
      refine o_val rfl rfl rfl (y_extract (v := (.int _ _)) rfl rfl) ?_
      refine o_val rfl rfl rfl (y_assign (v := (.slice _ _ _)) rfl) ?_
      refine o_val rfl rfl rfl (y_assign (v := (.int _ _)) rfl) ?_
      refine o_nil ?_
      refine s_seq ?_
      refine s_seq ?_
      refine s_region ?_
      refine o_fn 0 (d := 49) rfl Try.call62 (differsK_c _) rfl ?_
      rintro _ _ ⟨rfl, rfl⟩
      refine o_val rfl rfl rfl (y_notb rfl) ?_
      refine o_val rfl rfl rfl (y_move (v := (.bool _)) rfl) ?_
      refine o_guard_yes rfl rfl ?_
      refine o_val rfl rfl rfl (y_move (v := (.slice _ _ _)) rfl) ?_
      refine o_guard_yes rfl rfl ?_
      refine o_val rfl rfl rfl (y_len Try.runUnderlying41 rfl) ?_
      refine o_guard_yes rfl rfl ?_
      refine o_split rfl rfl rfl (y_gtr rfl rfl) (fun p10 => ?_) (fun p11 => ?_)
      · refine o_val rfl rfl rfl (y_pick_f (v := (.bool _)) rfl rfl) ?_
        refine o_val rfl rfl rfl (y_move (v := (.bool _)) rfl) ?_
        refine o_guard_no rfl rfl rfl rfl rfl ?_
        refine o_guard_no rfl rfl rfl rfl rfl ?_
        refine o_guard_no rfl rfl rfl rfl rfl ?_
        refine o_val rfl rfl rfl (y_pick_t (v := (.bool _)) rfl rfl) ?_
        refine o_nil ?_
        refine s_then rfl ?_
        refine s_seq ?_
        refine s_region ?_
        refine o_fn 0 (d := 61) rfl Try.call62 (differsK_c _) rfl ?_
        rintro _ _ ⟨rfl, rfl⟩
        refine o_val rfl rfl rfl (y_assign (v := (.bool _)) rfl) ?_
        refine o_nil ?_
        refine s_ret ?_
        exact ⟨_, _, res1 rfl rfl, ⟨rfl, rfl⟩, sub_front ⟨_, rfl⟩⟩
      · have hn1000 := p11
        refine o_val rfl rfl rfl (y_pick_f (v := (.bool _)) rfl rfl) ?_
        refine o_val rfl rfl rfl (y_move (v := (.bool _)) rfl) ?_
        refine o_guard_yes rfl rfl ?_
        refine o_val rfl rfl rfl (y_move (v := (.slice _ _ _)) rfl) ?_
        refine o_guard_yes rfl rfl ?_
        refine o_val rfl rfl rfl (y_len Try.runUnderlying41 rfl) ?_
        refine o_guard_yes rfl rfl ?_
        refine o_val rfl rfl rfl (y_gtr rfl rfl) ?_
        refine o_val rfl rfl rfl (y_pick_f (v := (.bool _)) rfl rfl) ?_
        refine o_nil ?_
        refine s_if rfl (fun h12 => ?_) (fun h13 => ?_)
        · refine s_seq ?_
          refine s_region ?_
          refine o_fn 0 (d := 61) rfl Try.call62 (differsK_c _) rfl ?_
          rintro _ _ ⟨rfl, rfl⟩
          refine o_val rfl rfl rfl (y_assign (v := (.bool _)) rfl) ?_
          refine o_nil ?_
          refine s_ret ?_
          exact ⟨_, _, res1 rfl rfl, ⟨rfl, rfl⟩, sub_front ⟨_, rfl⟩⟩
        · have hm100 := h13
          have i0 : ier = 0 := in_fit in_ (by omega) (by omega)
          have hz := in_zero in_ i0
          have hW := hz.2.2.2
          have hW1 := hW.1
          have hnd2 := dAll_nd (s1 := sumI xs) (s2 := sumI g.2.2) (xs := xs) (zs := g.2.2) (by omega)
          refine s_skip ?_
          refine s_seq ?_
          refine s_region ?_
          refine o_val rfl rfl rfl (y_move (v := (.slice _ _ _)) rfl) ?_
          refine o_val rfl rfl rfl (y_move (v := (.slice _ _ _)) rfl) ?_
          refine o_fn 0 (d := 65) rfl Try.call63 (Back_c _ _ _ xs h.here.down hn _ _ _ ibs (io.cels (j := 0) rfl).down hil hW.2.1 (by omega)) rfl ?_
          rintro _ _ ⟨bR, bk, be, zs, bG, ber, rfl, bo, rfl, bn⟩
          refine o_val rfl rfl rfl (y_move (v := (.tuple #[(.slice _ _ _), (.int _ _)])) rfl) ?_
          refine o_val rfl rfl rfl (y_extract (v := (.slice _ _ _)) rfl rfl) ?_
          refine o_val rfl rfl rfl (y_extract (v := (.int _ _)) rfl rfl) ?_
          refine o_val rfl rfl rfl (y_assign (v := (.slice _ _ _)) rfl) ?_
          refine o_val rfl rfl rfl (y_assign (v := (.int _ _)) rfl) ?_
          refine o_nil ?_
          refine s_seq ?_
          refine s_region ?_
          have b0 := bn.2.2 g.2.2 (in_BG in_ i0 hzi)
          have hzk : zs.length = bk := by simpa using bo.len
          have hzz : zs.length = n := by rw [b0.2]; exact hzl
          have hmm : g.1 ≤ m := hg
          refine o_val rfl rfl rfl (y_move (v := (.int _ _)) rfl) ?_
          refine o_split rfl rfl rfl (y_eql rfl rfl) (fun p14 => ?_) (fun p15 => ?_)
          · refine o_val rfl rfl rfl (y_move (v := (.bool _)) rfl) ?_
            refine o_guard_yes rfl rfl ?_
            refine o_val rfl rfl rfl (y_move (v := (.int _ _)) rfl) ?_
            refine o_guard_yes rfl rfl ?_
            refine o_split rfl rfl rfl (y_eql rfl rfl) (fun p16 => ?_) (fun p17 => ?_)
            · refine o_val rfl rfl rfl (y_pick_t (v := (.bool _)) rfl rfl) ?_
              refine o_val rfl rfl rfl (y_move (v := (.bool _)) rfl) ?_
              refine o_guard_yes rfl rfl ?_
              refine o_val rfl rfl rfl (y_move (v := (.slice _ _ _)) rfl) ?_
              refine o_guard_yes rfl rfl ?_
              refine o_val rfl rfl rfl (y_move (v := (.slice _ _ _)) rfl) ?_
              refine o_guard_yes rfl rfl ?_
              refine o_fn 0 (d := 77) rfl Try.call64 (EqN_c _ _ _ zs (bo.cels (j := 0) rfl).down hzk _ _ _ g.2.2 (ho.cels (j := 2) rfl).down hzl (by omega)) rfl ?_
              rintro _ _ ⟨rfl, rfl⟩
              refine o_split rfl rfl rfl (y_pick_t (v := (.bool _)) rfl rfl) (fun p18 => ?_) (fun p19 => ?_)
              · refine o_val rfl rfl rfl (y_move (v := (.bool _)) rfl) ?_
                refine o_guard_yes rfl rfl ?_
                refine o_val rfl rfl rfl (y_move (v := (.slice _ _ _)) rfl) ?_
                refine o_guard_yes rfl rfl ?_
                refine o_val rfl rfl rfl (y_len Try.runUnderlying30 rfl) ?_
                refine o_guard_yes rfl rfl ?_
                refine o_val rfl rfl rfl (y_move (v := (.slice _ _ _)) rfl) ?_
                refine o_guard_yes rfl rfl ?_
                refine o_val rfl rfl rfl (y_len Try.runUnderlying41 rfl) ?_
                refine o_guard_yes rfl rfl ?_
                refine o_val rfl rfl rfl (y_mul rfl rfl (by simp only [inK]; omega)) ?_
                refine o_guard_yes rfl rfl ?_
                refine o_val rfl rfl rfl (y_add rfl rfl (by simp only [inK]; omega)) ?_
                refine o_guard_yes rfl rfl ?_
                refine o_val rfl rfl rfl (y_leq rfl rfl) ?_
                refine o_val rfl rfl rfl (y_pick_t (v := (.bool _)) rfl rfl) ?_
                refine o_val rfl rfl rfl (y_assign (v := (.bool _)) rfl) ?_
                refine o_nil ?_
                refine s_ret ?_
                exact ⟨_, _, res1 rfl rfl, ⟨congrArg Value.bool (decide_eq_true (by rw [hzl2] at hnd2; omega)), rfl⟩, sub_front ⟨_, rfl⟩⟩
              · exact absurd (b0.2) p19
            · exact absurd (b0.1) p17
          · exact absurd (i0) p15

end Go.Proofs.Ytppciokaldmipaa.K
