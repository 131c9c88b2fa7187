/- Walks over the package net: a network made, a packet sent, a step. No condition beyond what each statement names. -/
import Derived.Test.YtdgmocibjjkghaaProg
import Derived.Test.YtdgmocibjjkghaaK13
import Derived.Test.YtdgmocibjjkghaaB9
import Derived.Test.YtdgmocibjjkghaaN1
set_option linter.unusedVariables false
set_option linter.unusedSimpArgs false
set_option maxRecDepth 100000
namespace Go.Proofs.Ytdgmocibjjkghaa.K
open Go.RowKit

/-- The fault of a network. -/
def errN (ends : Int) (ds : List DD) : Int := if ends < 1 ∨ 8 < ends then 1 else if 1000 < ds.length then 2 else if ∀ d ∈ ds, d.ok then 0 else 1
theorem ok_step {ds : List DD} {k : Nat} (h : ∀ j, j < k → (ds.getD j default).ok) (hk : (ds.getD ((k : Nat) : Int).toNat default).ok) : ∀ j, j < k + 1 → (ds.getD j default).ok := by
  intro j hj
  by_cases e : j = k
  · rw [e]; exact hk
  · exact h j (by omega)
theorem ok_all {ds : List DD} {k : Nat} (h : ∀ j, j < k → (ds.getD j default).ok) (hk : ds.length ≤ k) : ∀ d ∈ ds, d.ok := by
  intro d hd
  obtain ⟨j, hj, rfl⟩ := List.mem_iff_getElem.1 hd
  have := h j (by omega)
  rwa [List.getD_eq_getElem?_getD, List.getElem?_eq_getElem hj] at this
theorem ok_not {ds : List DD} {k : Nat} (hk : k < ds.length) (h : ¬ (ds.getD ((k : Nat) : Int).toNat default).ok) : ¬ ∀ d ∈ ds, d.ok := fun hh => h (hh _ (by
  rw [Int.toNat_natCast, List.getD_eq_getElem?_getD, List.getElem?_eq_getElem hk]; simp))
theorem take_enc {α : Type} [Inhabited α] {enc : α → List Value} {xs : List α} {k : Nat} (hk : k < xs.length) : (xs.take k).flatMap enc ++ enc (xs.getD ((k : Nat) : Int).toNat default) = (xs.take (k + 1)).flatMap enc := by
  rw [List.take_add_one, List.getElem?_eq_getElem hk, Int.toNat_natCast, List.getD_eq_getElem?_getD, List.getElem?_eq_getElem hk]
  simp only [Option.toList_some, List.flatMap_append, List.flatMap_cons, List.flatMap_nil, List.append_nil, Option.getD_some]
theorem sub_two {G H : Grp} {R : List Grp} : Sub [G, H] (G :: H :: R) := sub_front ⟨R, rfl⟩

theorem NewN_k0 (v0 : Int) (w : World) : (Instr.build 130 ([(0, (.int .i64 v0))] : List (Nat × Value)).toArray).run Try.prog w = .ok (.agg #[.int .i64 v0, .slice none 0 0, .int .i64 0, .int .i64 0, .slice none 0 0]) w := by kernel_rfl
theorem NewN_k1 (v0x0 : Int) (v0x1 : Int) (v0x2 : Int) (w : World) : (Instr.buildSlice 22 1 ([(0, (.agg #[(.int .i64 v0x0), (.int .i64 v0x1), (.int .i64 v0x2)]))] : List (Nat × Value)).toArray).run Try.prog w = .ok (.slice (some ⟨w.heap.size, 0, none⟩) 1 1) { w with heap := w.heap.push (.cells ([.int .i64 v0x0, .int .i64 v0x1, .int .i64 v0x2] : List Value).toArray 36 (0, 0)) } := by kernel_rfl
theorem NewN_c {V : Mem} (ends : Int) (N : Option Addr) (n c : Nat) (ds : List DD) (h : Cels V [] N (ds.flatMap encD)) (hn : ds.length = n) (hb : n ≤ 140737488355328) : CallS Try.prog 12 [.int .i64 ends, .slice N n c].toArray V [] (fun r L' => (errN ends ds ≠ 0 ∧ r = .tuple #[.pointer none, .int .i64 (errN ends ds)] ∧ L' = []) ∨ (errN ends ds = 0 ∧ ∃ b dA dc DG, r = .tuple #[.pointer (some ⟨b, 0, none⟩), .int .i64 0] ∧ OS dA n dc 36 3 (ds.flatMap encD) DG ∧ L' = [netg b ends dA n dc 0 0 none 0 0, DG])) := by
  refine callS Try.func12 rfl rfl (fun w0 => ?_)
  refine s_seq ?_
  refine s_region ?_
  refine o_val rfl rfl rfl (y_assign (v := (.pointer _)) rfl) ?_
  refine o_val rfl rfl rfl (y_assign (v := (.int _ _)) rfl) ?_
  refine o_nil ?_
  refine s_seq ?_
  refine s_seq ?_
  refine s_region ?_
  refine o_val rfl rfl rfl (y_move (v := (.int _ _)) rfl) ?_
  refine o_split rfl rfl rfl (y_lss rfl rfl) (fun p1 => ?_) (fun p2 => ?_)
  · refine o_val rfl rfl rfl (y_move (v := (.bool _)) rfl) ?_
    refine o_guard_no rfl rfl rfl rfl rfl ?_
    refine o_guard_no rfl rfl rfl rfl rfl ?_
    refine o_val rfl rfl rfl (y_pick_t (v := (.bool _)) rfl rfl) ?_
    refine o_nil ?_
    refine s_then rfl ?_
    refine s_seq ?_
    refine s_region ?_
    refine o_val rfl rfl rfl (y_assign (v := (.pointer _)) rfl) ?_
    refine o_val rfl rfl rfl (y_assign (v := (.int _ _)) rfl) ?_
    refine o_nil ?_
    refine s_ret ?_
    exact ⟨_, [], res2 rfl rfl rfl, .inl ⟨by unfold errN; rw [if_pos (by omega)]; decide, by unfold errN; rw [if_pos (by omega)] <;> rfl, rfl⟩, sub_picks [] rfl⟩
  · refine o_val rfl rfl rfl (y_move (v := (.bool _)) rfl) ?_
    refine o_guard_yes rfl rfl ?_
    refine o_val rfl rfl rfl (y_move (v := (.int _ _)) rfl) ?_
    refine o_guard_yes rfl rfl ?_
    refine o_val rfl rfl rfl (y_gtr rfl rfl) ?_
    refine o_val rfl rfl rfl (y_pick_f (v := (.bool _)) rfl rfl) ?_
    refine o_nil ?_
    refine s_if rfl (fun h3 => ?_) (fun h4 => ?_)
    · refine s_seq ?_
      refine s_region ?_
      refine o_val rfl rfl rfl (y_assign (v := (.pointer _)) rfl) ?_
      refine o_val rfl rfl rfl (y_assign (v := (.int _ _)) rfl) ?_
      refine o_nil ?_
      refine s_ret ?_
      exact ⟨_, [], res2 rfl rfl rfl, .inl ⟨by unfold errN; rw [if_pos (by omega)]; decide, by unfold errN; rw [if_pos (by omega)] <;> rfl, rfl⟩, sub_picks [] rfl⟩
    · refine s_skip ?_
      refine s_seq ?_
      refine s_seq ?_
      refine s_region ?_
      refine o_val rfl rfl rfl (y_move (v := (.slice _ _ _)) rfl) ?_
      refine o_val rfl rfl rfl (y_len Try.runUnderlying22 rfl) ?_
      refine o_val rfl rfl rfl (y_gtr rfl rfl) ?_
      refine o_nil ?_
      refine s_if rfl (fun h5 => ?_) (fun h6 => ?_)
      · refine s_seq ?_
        refine s_region ?_
        refine o_val rfl rfl rfl (y_assign (v := (.pointer _)) rfl) ?_
        refine o_val rfl rfl rfl (y_assign (v := (.int _ _)) rfl) ?_
        refine o_nil ?_
        refine s_ret ?_
        exact ⟨_, [], res2 rfl rfl rfl, .inl ⟨by unfold errN; rw [if_neg (by omega), if_pos (by omega)]; decide, by unfold errN; rw [if_neg (by omega), if_pos (by omega)] <;> rfl, rfl⟩, sub_picks [] rfl⟩
      · refine s_skip ?_
        refine s_seq ?_
        refine s_region ?_
        refine o_val rfl rfl rfl (y_move (v := (.int _ _)) rfl) ?_
        refine o_val rfl rfl rfl (y_build (vs := [(0, .int _ _)]) rfl (NewN_k0 _)) ?_
        refine o_box (v := (.agg #[(.int _ _), (.slice _ _ _), (.int _ _), (.int _ _), (.slice _ _ _)])) rfl rfl rfl (fun b7 => ?_)
        refine o_val rfl rfl rfl (y_assign (v := (.pointer _)) rfl) ?_
        refine o_nil ?_
        refine s_forget [(1, (.slice _ _ _)), (4, (.pointer _)), (5, (.int _ _)), (6, (.pointer _))] ⟨rfl, rfl, rfl, rfl, trivial⟩ (fun _f => ?_)
        refine s_seq ?_
        refine s_seq ?_
        refine s_region ?_
        refine o_val rfl rfl rfl (y_move (v := (.slice _ _ _)) rfl) ?_
        refine o_val rfl rfl rfl (y_len Try.runUnderlying22 rfl) ?_
        refine o_val rfl rfl rfl (y_move (v := (.int _ _)) rfl) ?_
        refine o_nil ?_
        refine s_block ?_
        refine s_group ?_
        refine s_loop (γ := G1) (fun g => [(6, .pointer (some ⟨b7, 0, none⟩)), (21, .slice N n c), (22, .int .i64 n), (23, .int .i64 g.i)]) (fun g => [netg b7 ends g.A g.i g.c 0 0 none 0 0, g.E]) (fun g => g.i ≤ n ∧ OS g.A g.i g.c 36 3 ((ds.take g.i).flatMap encD) g.E ∧ ∀ j, j < g.i → (ds.getD j default).ok) (fun g => n - g.i) (G1.mk 0 none 0 0 []) ?_ ⟨rfl, rfl, rfl, rfl, trivial⟩ (sub_front ⟨_, rfl⟩) ?_
        · exact ⟨Nat.zero_le _, OS.nil _ _, fun j hj => absurd hj (Nat.not_lt_zero j)⟩
        · intro g _f hI
          obtain ⟨hi, ho0, hall⟩ := hI
          refine s_seq ?_
          refine s_region ?_
          refine o_val rfl rfl rfl (y_lss rfl rfl) ?_
          refine o_nil ?_
          refine s_seq ?_
          refine s_if rfl (fun h8 => ?_) (fun h9 => ?_)
          · refine s_skip ?_
            refine s_seq ?_
            refine s_block ?_
            refine s_seq ?_
            refine s_region ?_
            refine o_val rfl rfl rfl (y_indexAddr Try.runUnderlying22 Try.sizeOf36 (some_at (sz := 2) encD_len (i := 0) h (by omega)) rfl rfl (by omega)) ?_
            refine o_val rfl rfl rfl (y_loads (cs := [_, _, _]) Try.isAgg36 Try.sizeOf36 rfl (by unfold idx; rw [Option.isSome_map]; exact some_at (sz := 2) encD_len (i := 0) h (by omega)) rfl (cels_at (sz := 3) encD_len h.here (by omega))) ?_
            refine o_alloc rfl Try.zeroValue36 rfl (fun b10 => ?_)
            refine o_stores (vs := [(.int _ _), (.int _ _), (.int _ _)]) 2 rfl Try.sizeOf36 rfl rfl rfl (by simp [Value.oneCell']) (by simp) ?_
            refine o_nil ?_
            refine s_seq ?_
            refine s_seq ?_
            refine s_region ?_
            refine o_val rfl rfl rfl (y_field0 Try.runUnderlying36 rfl Try.sizeOf3 rfl rfl) ?_
            refine o_val rfl rfl rfl (y_load Try.isAgg3 rfl (cel_own 2 rfl rfl)) ?_
            refine o_split rfl rfl rfl (y_lss rfl rfl) (fun p11 => ?_) (fun p12 => ?_)
            · refine o_val rfl rfl rfl (y_move (v := (.bool _)) rfl) ?_
              refine o_guard_no rfl rfl rfl rfl rfl ?_
              refine o_guard_no rfl rfl rfl rfl rfl ?_
              refine o_guard_no rfl rfl rfl rfl rfl ?_
              refine o_val rfl rfl rfl (y_pick_t (v := (.bool _)) rfl rfl) ?_
              refine o_val rfl rfl rfl (y_move (v := (.bool _)) rfl) ?_
              refine o_guard_no rfl rfl rfl rfl rfl ?_
              refine o_guard_no rfl rfl rfl rfl rfl ?_
              refine o_guard_no rfl rfl rfl rfl rfl ?_
              refine o_val rfl rfl rfl (y_pick_t (v := (.bool _)) rfl rfl) ?_
              refine o_val rfl rfl rfl (y_move (v := (.bool _)) rfl) ?_
              refine o_guard_no rfl rfl rfl rfl rfl ?_
              refine o_guard_no rfl rfl rfl rfl rfl ?_
              refine o_guard_no rfl rfl rfl rfl rfl ?_
              refine o_val rfl rfl rfl (y_pick_t (v := (.bool _)) rfl rfl) ?_
              refine o_val rfl rfl rfl (y_move (v := (.bool _)) rfl) ?_
              refine o_guard_no rfl rfl rfl rfl rfl ?_
              refine o_guard_no rfl rfl rfl rfl rfl ?_
              refine o_guard_no rfl rfl rfl rfl rfl ?_
              refine o_val rfl rfl rfl (y_pick_t (v := (.bool _)) rfl rfl) ?_
              refine o_val rfl rfl rfl (y_move (v := (.bool _)) rfl) ?_
              refine o_guard_no rfl rfl rfl rfl rfl ?_
              refine o_guard_no rfl rfl rfl rfl rfl ?_
              refine o_guard_no rfl rfl rfl rfl rfl ?_
              refine o_val rfl rfl rfl (y_pick_t (v := (.bool _)) rfl rfl) ?_
              refine o_val rfl rfl rfl (y_move (v := (.bool _)) rfl) ?_
              refine o_guard_no rfl rfl rfl rfl rfl ?_
              refine o_guard_no rfl rfl rfl rfl rfl ?_
              refine o_guard_no rfl rfl rfl rfl rfl ?_
              refine o_guard_no rfl rfl rfl rfl rfl ?_
              refine o_guard_un rfl rfl rfl rfl ?_
              refine o_guard_un rfl rfl rfl rfl ?_
              refine o_guard_un rfl rfl rfl rfl ?_
              refine o_guard_no rfl rfl rfl rfl rfl ?_
              refine o_val rfl rfl rfl (y_pick_t (v := (.bool _)) rfl rfl) ?_
              refine o_nil ?_
              refine s_then rfl ?_
              refine s_seq ?_
              refine s_region ?_
              refine o_val rfl rfl rfl (y_assign (v := (.pointer _)) rfl) ?_
              refine o_val rfl rfl rfl (y_assign (v := (.int _ _)) rfl) ?_
              refine o_nil ?_
              refine s_ret ?_
              exact ⟨_, [], res2 rfl rfl rfl, .inl ⟨by unfold errN; rw [if_neg (by omega), if_neg (by omega), if_neg (ok_not (k := g.i) (by omega) (fun hh => by unfold DD.ok at hh; omega))]; decide, by unfold errN; rw [if_neg (by omega), if_neg (by omega), if_neg (ok_not (k := g.i) (by omega) (fun hh => by unfold DD.ok at hh; omega))] <;> rfl, rfl⟩, sub_picks [] rfl⟩
            · refine o_val rfl rfl rfl (y_move (v := (.bool _)) rfl) ?_
              refine o_guard_yes rfl rfl ?_
              refine o_val rfl rfl rfl (y_field0 Try.runUnderlying36 rfl Try.sizeOf3 rfl rfl) ?_
              refine o_guard_yes rfl rfl ?_
              refine o_val rfl rfl rfl (y_load Try.isAgg3 rfl (cel_own 2 rfl rfl)) ?_
              refine o_guard_yes rfl rfl ?_
              refine o_split rfl rfl rfl (y_gtr rfl rfl) (fun p13 => ?_) (fun p14 => ?_)
              · refine o_val rfl rfl rfl (y_pick_f (v := (.bool _)) rfl rfl) ?_
                refine o_val rfl rfl rfl (y_move (v := (.bool _)) rfl) ?_
                refine o_guard_no rfl rfl rfl rfl rfl ?_
                refine o_guard_no rfl rfl rfl rfl rfl ?_
                refine o_guard_no rfl rfl rfl rfl rfl ?_
                refine o_val rfl rfl rfl (y_pick_t (v := (.bool _)) rfl rfl) ?_
                refine o_val rfl rfl rfl (y_move (v := (.bool _)) rfl) ?_
                refine o_guard_no rfl rfl rfl rfl rfl ?_
                refine o_guard_no rfl rfl rfl rfl rfl ?_
                refine o_guard_no rfl rfl rfl rfl rfl ?_
                refine o_val rfl rfl rfl (y_pick_t (v := (.bool _)) rfl rfl) ?_
                refine o_val rfl rfl rfl (y_move (v := (.bool _)) rfl) ?_
                refine o_guard_no rfl rfl rfl rfl rfl ?_
                refine o_guard_no rfl rfl rfl rfl rfl ?_
                refine o_guard_no rfl rfl rfl rfl rfl ?_
                refine o_val rfl rfl rfl (y_pick_t (v := (.bool _)) rfl rfl) ?_
                refine o_val rfl rfl rfl (y_move (v := (.bool _)) rfl) ?_
                refine o_guard_no rfl rfl rfl rfl rfl ?_
                refine o_guard_no rfl rfl rfl rfl rfl ?_
                refine o_guard_no rfl rfl rfl rfl rfl ?_
                refine o_val rfl rfl rfl (y_pick_t (v := (.bool _)) rfl rfl) ?_
                refine o_val rfl rfl rfl (y_move (v := (.bool _)) rfl) ?_
                refine o_guard_no rfl rfl rfl rfl rfl ?_
                refine o_guard_no rfl rfl rfl rfl rfl ?_
                refine o_guard_no rfl rfl rfl rfl rfl ?_
                refine o_guard_no rfl rfl rfl rfl rfl ?_
                refine o_guard_un rfl rfl rfl rfl ?_
                refine o_guard_un rfl rfl rfl rfl ?_
                refine o_guard_un rfl rfl rfl rfl ?_
                refine o_guard_no rfl rfl rfl rfl rfl ?_
                refine o_val rfl rfl rfl (y_pick_t (v := (.bool _)) rfl rfl) ?_
                refine o_nil ?_
                refine s_then rfl ?_
                refine s_seq ?_
                refine s_region ?_
                refine o_val rfl rfl rfl (y_assign (v := (.pointer _)) rfl) ?_
                refine o_val rfl rfl rfl (y_assign (v := (.int _ _)) rfl) ?_
                refine o_nil ?_
                refine s_ret ?_
                exact ⟨_, [], res2 rfl rfl rfl, .inl ⟨by unfold errN; rw [if_neg (by omega), if_neg (by omega), if_neg (ok_not (k := g.i) (by omega) (fun hh => by unfold DD.ok at hh; omega))]; decide, by unfold errN; rw [if_neg (by omega), if_neg (by omega), if_neg (ok_not (k := g.i) (by omega) (fun hh => by unfold DD.ok at hh; omega))] <;> rfl, rfl⟩, sub_picks [] rfl⟩
              · refine o_val rfl rfl rfl (y_pick_f (v := (.bool _)) rfl rfl) ?_
                refine o_val rfl rfl rfl (y_move (v := (.bool _)) rfl) ?_
                refine o_guard_yes rfl rfl ?_
                refine o_val rfl rfl rfl (y_field0 Try.runUnderlying36 rfl Try.sizeOf3 rfl rfl) ?_
                refine o_guard_yes rfl rfl ?_
                refine o_val rfl rfl rfl (y_load Try.isAgg3 rfl (cel_own 2 rfl rfl)) ?_
                refine o_guard_yes rfl rfl ?_
                refine o_split rfl rfl rfl (y_lss rfl rfl) (fun p15 => ?_) (fun p16 => ?_)
                · refine o_val rfl rfl rfl (y_pick_f (v := (.bool _)) rfl rfl) ?_
                  refine o_val rfl rfl rfl (y_move (v := (.bool _)) rfl) ?_
                  refine o_guard_no rfl rfl rfl rfl rfl ?_
                  refine o_guard_no rfl rfl rfl rfl rfl ?_
                  refine o_guard_no rfl rfl rfl rfl rfl ?_
                  refine o_val rfl rfl rfl (y_pick_t (v := (.bool _)) rfl rfl) ?_
                  refine o_val rfl rfl rfl (y_move (v := (.bool _)) rfl) ?_
                  refine o_guard_no rfl rfl rfl rfl rfl ?_
                  refine o_guard_no rfl rfl rfl rfl rfl ?_
                  refine o_guard_no rfl rfl rfl rfl rfl ?_
                  refine o_val rfl rfl rfl (y_pick_t (v := (.bool _)) rfl rfl) ?_
                  refine o_val rfl rfl rfl (y_move (v := (.bool _)) rfl) ?_
                  refine o_guard_no rfl rfl rfl rfl rfl ?_
                  refine o_guard_no rfl rfl rfl rfl rfl ?_
                  refine o_guard_no rfl rfl rfl rfl rfl ?_
                  refine o_val rfl rfl rfl (y_pick_t (v := (.bool _)) rfl rfl) ?_
                  refine o_val rfl rfl rfl (y_move (v := (.bool _)) rfl) ?_
                  refine o_guard_no rfl rfl rfl rfl rfl ?_
                  refine o_guard_no rfl rfl rfl rfl rfl ?_
                  refine o_guard_no rfl rfl rfl rfl rfl ?_
                  refine o_guard_no rfl rfl rfl rfl rfl ?_
                  refine o_guard_un rfl rfl rfl rfl ?_
                  refine o_guard_un rfl rfl rfl rfl ?_
                  refine o_guard_un rfl rfl rfl rfl ?_
                  refine o_guard_no rfl rfl rfl rfl rfl ?_
                  refine o_val rfl rfl rfl (y_pick_t (v := (.bool _)) rfl rfl) ?_
                  refine o_nil ?_
                  refine s_then rfl ?_
                  refine s_seq ?_
                  refine s_region ?_
                  refine o_val rfl rfl rfl (y_assign (v := (.pointer _)) rfl) ?_
                  refine o_val rfl rfl rfl (y_assign (v := (.int _ _)) rfl) ?_
                  refine o_nil ?_
                  refine s_ret ?_
                  exact ⟨_, [], res2 rfl rfl rfl, .inl ⟨by unfold errN; rw [if_neg (by omega), if_neg (by omega), if_neg (ok_not (k := g.i) (by omega) (fun hh => by unfold DD.ok at hh; omega))]; decide, by unfold errN; rw [if_neg (by omega), if_neg (by omega), if_neg (ok_not (k := g.i) (by omega) (fun hh => by unfold DD.ok at hh; omega))] <;> rfl, rfl⟩, sub_picks [] rfl⟩
                · refine o_val rfl rfl rfl (y_pick_f (v := (.bool _)) rfl rfl) ?_
                  refine o_val rfl rfl rfl (y_move (v := (.bool _)) rfl) ?_
                  refine o_guard_yes rfl rfl ?_
                  refine o_val rfl rfl rfl (y_field0 Try.runUnderlying36 rfl Try.sizeOf3 rfl rfl) ?_
                  refine o_guard_yes rfl rfl ?_
                  refine o_val rfl rfl rfl (y_load Try.isAgg3 rfl (cel_own 2 rfl rfl)) ?_
                  refine o_guard_yes rfl rfl ?_
                  refine o_split rfl rfl rfl (y_geq rfl rfl) (fun p17 => ?_) (fun p18 => ?_)
                  · refine o_val rfl rfl rfl (y_pick_f (v := (.bool _)) rfl rfl) ?_
                    refine o_val rfl rfl rfl (y_move (v := (.bool _)) rfl) ?_
                    refine o_guard_no rfl rfl rfl rfl rfl ?_
                    refine o_guard_no rfl rfl rfl rfl rfl ?_
                    refine o_guard_no rfl rfl rfl rfl rfl ?_
                    refine o_val rfl rfl rfl (y_pick_t (v := (.bool _)) rfl rfl) ?_
                    refine o_val rfl rfl rfl (y_move (v := (.bool _)) rfl) ?_
                    refine o_guard_no rfl rfl rfl rfl rfl ?_
                    refine o_guard_no rfl rfl rfl rfl rfl ?_
                    refine o_guard_no rfl rfl rfl rfl rfl ?_
                    refine o_val rfl rfl rfl (y_pick_t (v := (.bool _)) rfl rfl) ?_
                    refine o_val rfl rfl rfl (y_move (v := (.bool _)) rfl) ?_
                    refine o_guard_no rfl rfl rfl rfl rfl ?_
                    refine o_guard_no rfl rfl rfl rfl rfl ?_
                    refine o_guard_no rfl rfl rfl rfl rfl ?_
                    refine o_guard_no rfl rfl rfl rfl rfl ?_
                    refine o_guard_un rfl rfl rfl rfl ?_
                    refine o_guard_un rfl rfl rfl rfl ?_
                    refine o_guard_un rfl rfl rfl rfl ?_
                    refine o_guard_no rfl rfl rfl rfl rfl ?_
                    refine o_val rfl rfl rfl (y_pick_t (v := (.bool _)) rfl rfl) ?_
                    refine o_nil ?_
                    refine s_then rfl ?_
                    refine s_seq ?_
                    refine s_region ?_
                    refine o_val rfl rfl rfl (y_assign (v := (.pointer _)) rfl) ?_
                    refine o_val rfl rfl rfl (y_assign (v := (.int _ _)) rfl) ?_
                    refine o_nil ?_
                    refine s_ret ?_
                    exact ⟨_, [], res2 rfl rfl rfl, .inl ⟨by unfold errN; rw [if_neg (by omega), if_neg (by omega), if_neg (ok_not (k := g.i) (by omega) (fun hh => by unfold DD.ok at hh; omega))]; decide, by unfold errN; rw [if_neg (by omega), if_neg (by omega), if_neg (ok_not (k := g.i) (by omega) (fun hh => by unfold DD.ok at hh; omega))] <;> rfl, rfl⟩, sub_picks [] rfl⟩
                  · refine o_val rfl rfl rfl (y_pick_f (v := (.bool _)) rfl rfl) ?_
                    refine o_val rfl rfl rfl (y_move (v := (.bool _)) rfl) ?_
                    refine o_guard_yes rfl rfl ?_
                    refine o_val rfl rfl rfl (y_field0 Try.runUnderlying36 rfl Try.sizeOf3 rfl rfl) ?_
                    refine o_guard_yes rfl rfl ?_
                    refine o_val rfl rfl rfl (y_load Try.isAgg3 rfl (cel_own 2 rfl rfl)) ?_
                    refine o_guard_yes rfl rfl ?_
                    refine o_split rfl rfl rfl (y_lss rfl rfl) (fun p19 => ?_) (fun p20 => ?_)
                    · refine o_val rfl rfl rfl (y_pick_f (v := (.bool _)) rfl rfl) ?_
                      refine o_val rfl rfl rfl (y_move (v := (.bool _)) rfl) ?_
                      refine o_guard_no rfl rfl rfl rfl rfl ?_
                      refine o_guard_no rfl rfl rfl rfl rfl ?_
                      refine o_guard_no rfl rfl rfl rfl rfl ?_
                      refine o_val rfl rfl rfl (y_pick_t (v := (.bool _)) rfl rfl) ?_
                      refine o_val rfl rfl rfl (y_move (v := (.bool _)) rfl) ?_
                      refine o_guard_no rfl rfl rfl rfl rfl ?_
                      refine o_guard_no rfl rfl rfl rfl rfl ?_
                      refine o_guard_no rfl rfl rfl rfl rfl ?_
                      refine o_guard_no rfl rfl rfl rfl rfl ?_
                      refine o_guard_un rfl rfl rfl rfl ?_
                      refine o_guard_un rfl rfl rfl rfl ?_
                      refine o_guard_un rfl rfl rfl rfl ?_
                      refine o_guard_no rfl rfl rfl rfl rfl ?_
                      refine o_val rfl rfl rfl (y_pick_t (v := (.bool _)) rfl rfl) ?_
                      refine o_nil ?_
                      refine s_then rfl ?_
                      refine s_seq ?_
                      refine s_region ?_
                      refine o_val rfl rfl rfl (y_assign (v := (.pointer _)) rfl) ?_
                      refine o_val rfl rfl rfl (y_assign (v := (.int _ _)) rfl) ?_
                      refine o_nil ?_
                      refine s_ret ?_
                      exact ⟨_, [], res2 rfl rfl rfl, .inl ⟨by unfold errN; rw [if_neg (by omega), if_neg (by omega), if_neg (ok_not (k := g.i) (by omega) (fun hh => by unfold DD.ok at hh; omega))]; decide, by unfold errN; rw [if_neg (by omega), if_neg (by omega), if_neg (ok_not (k := g.i) (by omega) (fun hh => by unfold DD.ok at hh; omega))] <;> rfl, rfl⟩, sub_picks [] rfl⟩
                    · refine o_val rfl rfl rfl (y_pick_f (v := (.bool _)) rfl rfl) ?_
                      refine o_val rfl rfl rfl (y_move (v := (.bool _)) rfl) ?_
                      refine o_guard_yes rfl rfl ?_
                      refine o_val rfl rfl rfl (y_field0 Try.runUnderlying36 rfl Try.sizeOf3 rfl rfl) ?_
                      refine o_guard_yes rfl rfl ?_
                      refine o_val rfl rfl rfl (y_load Try.isAgg3 rfl (cel_own 2 rfl rfl)) ?_
                      refine o_guard_yes rfl rfl ?_
                      refine o_split rfl rfl rfl (y_gtr rfl rfl) (fun p21 => ?_) (fun p22 => ?_)
                      · refine o_val rfl rfl rfl (y_pick_f (v := (.bool _)) rfl rfl) ?_
                        refine o_val rfl rfl rfl (y_move (v := (.bool _)) rfl) ?_
                        refine o_guard_no rfl rfl rfl rfl rfl ?_
                        refine o_guard_no rfl rfl rfl rfl rfl ?_
                        refine o_guard_no rfl rfl rfl rfl rfl ?_
                        refine o_guard_no rfl rfl rfl rfl rfl ?_
                        refine o_guard_un rfl rfl rfl rfl ?_
                        refine o_guard_un rfl rfl rfl rfl ?_
                        refine o_guard_un rfl rfl rfl rfl ?_
                        refine o_guard_no rfl rfl rfl rfl rfl ?_
                        refine o_val rfl rfl rfl (y_pick_t (v := (.bool _)) rfl rfl) ?_
                        refine o_nil ?_
                        refine s_then rfl ?_
                        refine s_seq ?_
                        refine s_region ?_
                        refine o_val rfl rfl rfl (y_assign (v := (.pointer _)) rfl) ?_
                        refine o_val rfl rfl rfl (y_assign (v := (.int _ _)) rfl) ?_
                        refine o_nil ?_
                        refine s_ret ?_
                        exact ⟨_, [], res2 rfl rfl rfl, .inl ⟨by unfold errN; rw [if_neg (by omega), if_neg (by omega), if_neg (ok_not (k := g.i) (by omega) (fun hh => by unfold DD.ok at hh; omega))]; decide, by unfold errN; rw [if_neg (by omega), if_neg (by omega), if_neg (ok_not (k := g.i) (by omega) (fun hh => by unfold DD.ok at hh; omega))] <;> rfl, rfl⟩, sub_picks [] rfl⟩
                      · refine o_val rfl rfl rfl (y_pick_f (v := (.bool _)) rfl rfl) ?_
                        refine o_val rfl rfl rfl (y_move (v := (.bool _)) rfl) ?_
                        refine o_guard_yes rfl rfl ?_
                        refine o_val rfl rfl rfl (y_field0 Try.runUnderlying36 rfl Try.sizeOf3 rfl rfl) ?_
                        refine o_guard_yes rfl rfl ?_
                        refine o_val rfl rfl rfl (y_load Try.isAgg3 rfl (cel_own 2 rfl rfl)) ?_
                        refine o_guard_yes rfl rfl ?_
                        refine o_split rfl rfl rfl (y_eql rfl rfl) (fun p23 => ?_) (fun p24 => ?_)
                        · refine o_guard_yes rfl rfl ?_
                          refine o_val rfl rfl rfl (y_move (v := (.bool _)) rfl) ?_
                          refine o_guard_yes rfl rfl ?_
                          refine o_val rfl rfl rfl (y_field0 Try.runUnderlying36 rfl Try.sizeOf3 rfl rfl) ?_
                          refine o_guard_yes rfl rfl ?_
                          refine o_val rfl rfl rfl (y_load Try.isAgg3 rfl (cel_own 2 rfl rfl)) ?_
                          refine o_guard_yes rfl rfl ?_
                          refine o_split rfl rfl rfl (y_neq rfl rfl) (fun p25 => ?_) (fun p26 => ?_)
                          · refine o_guard_yes rfl rfl ?_
                            refine o_val rfl rfl rfl (y_pick_t (v := (.bool _)) rfl rfl) ?_
                            refine o_val rfl rfl rfl (y_pick_f (v := (.bool _)) rfl rfl) ?_
                            refine o_nil ?_
                            refine s_then rfl ?_
                            refine s_seq ?_
                            refine s_region ?_
                            refine o_val rfl rfl rfl (y_assign (v := (.pointer _)) rfl) ?_
                            refine o_val rfl rfl rfl (y_assign (v := (.int _ _)) rfl) ?_
                            refine o_nil ?_
                            refine s_ret ?_
                            exact ⟨_, [], res2 rfl rfl rfl, .inl ⟨by unfold errN; rw [if_neg (by omega), if_neg (by omega), if_neg (ok_not (k := g.i) (by omega) (fun hh => by unfold DD.ok at hh; omega))]; decide, by unfold errN; rw [if_neg (by omega), if_neg (by omega), if_neg (ok_not (k := g.i) (by omega) (fun hh => by unfold DD.ok at hh; omega))] <;> rfl, rfl⟩, sub_picks [] rfl⟩
                          · refine o_guard_yes rfl rfl ?_
                            refine o_val rfl rfl rfl (y_pick_t (v := (.bool _)) rfl rfl) ?_
                            refine o_val rfl rfl rfl (y_pick_f (v := (.bool _)) rfl rfl) ?_
                            refine o_nil ?_
                            refine s_else rfl ?_
                            refine s_skip ?_
                            refine s_pull 1 ?_
                            refine s_pull 1 ?_
                            refine s_drawn 2 (by kernel_rfl) ?_
                            refine d_val (i := 0) rfl (by kernel_rfl) (by kernel_rfl) (by kernel_rfl) rfl rfl rfl (y_move (v := (.pointer _)) rfl) ?_
                            refine d_val (i := 1) rfl (by kernel_rfl) (by kernel_rfl) (by kernel_rfl) rfl rfl rfl (y_move (v := (.pointer _)) rfl) ?_
                            refine d_val (i := 2) rfl (by kernel_rfl) (by kernel_rfl) (by kernel_rfl) rfl rfl rfl (y_nilCheck rfl) ?_
                            refine d_val (i := 3) rfl (by kernel_rfl) (by kernel_rfl) (by kernel_rfl) rfl rfl rfl (y_field0 Try.runUnderlying130 rfl Try.sizeOf22 rfl rfl) ?_
                            refine d_val (i := 5) rfl (by kernel_rfl) (by kernel_rfl) (by kernel_rfl) rfl rfl rfl (y_loads (cs := [_, _, _]) Try.isAgg36 Try.sizeOf36 rfl rfl rfl (cels_own 0 rfl rfl)) ?_
                            refine d_eff2 (k := 4) (k' := 6) (n := 2) (m := 1) rfl rfl (by kernel_rfl) rfl ?_ ?_
                            · refine o_val rfl rfl rfl (y_load Try.isAgg22 rfl (cel_own 0 rfl rfl)) ?_
                              refine o_nil ?_
                              refine d_eff (k := 6) (n := 2) (m := 1) rfl (by kernel_rfl) rfl ?_
                              refine o_lit (vs := [(0, .agg #[.int _ _, .int _ _, .int _ _])]) rfl rfl (NewN_k1 _ _ _) (fun b27 => ?_)
                              refine o_nil ?_
                              refine d_eff (k := 7) (n := 2) (m := 1) rfl (by kernel_rfl) rfl ?_
                              refine o_append (sz := 3) (bytes := 24) (news := [(.int _ _), (.int _ _), (.int _ _)]) 1 rfl Try.underlying22 Try.type36 rfl rfl rfl rfl rfl ho0 rfl rfl (Src.slice Try.underlying22 (cels_own 3 rfl rfl) rfl (by simp [Value.oneCell']) (by simp)) (by omega) (fun A28 c29 E30 ho31 hn32 => ?_)
                              have ho33 : OS A28 (g.i + 1) c29 36 3 ((ds.take (g.i + 1)).flatMap encD) E30 := os_eq ho31 (by rw [← take_enc (by omega)]; rfl)
                              clear ho31
                              refine o_nil ?_
                              refine d_val (i := 8) rfl (by kernel_rfl) (by kernel_rfl) (by kernel_rfl) rfl rfl rfl (y_nilCheck rfl) ?_
                              refine d_val (i := 9) rfl (by kernel_rfl) (by kernel_rfl) (by kernel_rfl) rfl rfl rfl (y_field0 Try.runUnderlying130 rfl Try.sizeOf22 rfl rfl) ?_
                              refine d_eff (k := 10) (n := 2) (m := 1) rfl (by kernel_rfl) rfl ?_
                              refine o_store (v := (.slice _ _ _)) 0 rfl Try.sizeOf22 rfl rfl rfl rfl ?_
                              refine o_nil ?_
                              refine d_nil (n := 2) (m := 1) (by kernel_rfl) rfl ?_
                              refine s_norm [[(_, .cells [(.int _ _), (.slice _ _ _), (.int _ _), (.int _ _), (.slice _ _ _)].toArray 130 (0, 0))], _, [(_, .cells [(.int _ _), (.int _ _), (.int _ _)].toArray 36 (0, 0))], [(_, .cells [(.int _ _), (.int _ _), (.int _ _)].toArray 36 (0, 0))]] rfl ?_
                              refine s_region ?_
                              refine o_val rfl rfl rfl (y_add rfl rfl (by simp only [inK]; omega)) ?_
                              refine o_val rfl rfl rfl (y_move (v := (.int _ _)) rfl) ?_
                              refine o_nil ?_
                              exact ⟨G1.mk (g.i + 1) A28 0 c29 E30, (by first | omega | (dsimp only; omega)), ⟨by dsimp only; omega, ho33, ok_step hall (by unfold DD.ok; omega)⟩, ⟨rfl, rfl, rfl, (congrArg (Value.int .i64) (by dsimp only; omega)), trivial⟩, sub_front ⟨_, rfl⟩⟩
                            · refine o_lit (vs := [(0, .agg #[.int _ _, .int _ _, .int _ _])]) rfl rfl (NewN_k1 _ _ _) (fun b34 => ?_)
                              refine o_nil ?_
                              refine d_now (i := 4) [] rfl (by kernel_rfl) (by kernel_rfl) (by kernel_rfl) rfl rfl rfl (y_load Try.isAgg22 rfl (cel_own 0 rfl rfl)) trivial ?_
                              refine d_eff (k := 7) (n := 2) (m := 1) rfl (by kernel_rfl) rfl ?_
                              refine o_append (sz := 3) (bytes := 24) (news := [(.int _ _), (.int _ _), (.int _ _)]) 1 rfl Try.underlying22 Try.type36 rfl rfl rfl rfl rfl ho0 rfl rfl (Src.slice Try.underlying22 (cels_own 3 rfl rfl) rfl (by simp [Value.oneCell']) (by simp)) (by omega) (fun A35 c36 E37 ho38 hn39 => ?_)
                              have ho40 : OS A35 (g.i + 1) c36 36 3 ((ds.take (g.i + 1)).flatMap encD) E37 := os_eq ho38 (by rw [← take_enc (by omega)]; rfl)
                              clear ho38
                              refine o_nil ?_
                              refine d_val (i := 8) rfl (by kernel_rfl) (by kernel_rfl) (by kernel_rfl) rfl rfl rfl (y_nilCheck rfl) ?_
                              refine d_val (i := 9) rfl (by kernel_rfl) (by kernel_rfl) (by kernel_rfl) rfl rfl rfl (y_field0 Try.runUnderlying130 rfl Try.sizeOf22 rfl rfl) ?_
                              refine d_eff (k := 10) (n := 2) (m := 1) rfl (by kernel_rfl) rfl ?_
                              refine o_store (v := (.slice _ _ _)) 0 rfl Try.sizeOf22 rfl rfl rfl rfl ?_
                              refine o_nil ?_
                              refine d_nil (n := 2) (m := 1) (by kernel_rfl) rfl ?_
                              refine s_norm [[(_, .cells [(.int _ _), (.slice _ _ _), (.int _ _), (.int _ _), (.slice _ _ _)].toArray 130 (0, 0))], _, [(_, .cells [(.int _ _), (.int _ _), (.int _ _)].toArray 36 (0, 0))], [(_, .cells [(.int _ _), (.int _ _), (.int _ _)].toArray 36 (0, 0))]] rfl ?_
                              refine s_region ?_
                              refine o_val rfl rfl rfl (y_add rfl rfl (by simp only [inK]; omega)) ?_
                              refine o_val rfl rfl rfl (y_move (v := (.int _ _)) rfl) ?_
                              refine o_nil ?_
                              exact ⟨G1.mk (g.i + 1) A35 0 c36 E37, (by first | omega | (dsimp only; omega)), ⟨by dsimp only; omega, ho40, ok_step hall (by unfold DD.ok; omega)⟩, ⟨rfl, rfl, rfl, (congrArg (Value.int .i64) (by dsimp only; omega)), trivial⟩, sub_front ⟨_, rfl⟩⟩
                        · refine o_guard_yes rfl rfl ?_
                          refine o_val rfl rfl rfl (y_move (v := (.bool _)) rfl) ?_
                          refine o_guard_no rfl rfl rfl rfl rfl ?_
                          refine o_guard_no rfl rfl rfl rfl rfl ?_
                          refine o_guard_no rfl rfl rfl rfl rfl ?_
                          refine o_guard_yes rfl rfl ?_
                          refine o_val rfl rfl rfl (y_pick_f (v := (.bool _)) rfl rfl) ?_
                          refine o_val rfl rfl rfl (y_pick_f (v := (.bool _)) rfl rfl) ?_
                          refine o_nil ?_
                          refine s_else rfl ?_
                          refine s_skip ?_
                          refine s_pull 1 ?_
                          refine s_pull 1 ?_
                          refine s_drawn 2 (by kernel_rfl) ?_
                          refine d_val (i := 0) rfl (by kernel_rfl) (by kernel_rfl) (by kernel_rfl) rfl rfl rfl (y_move (v := (.pointer _)) rfl) ?_
                          refine d_val (i := 1) rfl (by kernel_rfl) (by kernel_rfl) (by kernel_rfl) rfl rfl rfl (y_move (v := (.pointer _)) rfl) ?_
                          refine d_val (i := 2) rfl (by kernel_rfl) (by kernel_rfl) (by kernel_rfl) rfl rfl rfl (y_nilCheck rfl) ?_
                          refine d_val (i := 3) rfl (by kernel_rfl) (by kernel_rfl) (by kernel_rfl) rfl rfl rfl (y_field0 Try.runUnderlying130 rfl Try.sizeOf22 rfl rfl) ?_
                          refine d_val (i := 5) rfl (by kernel_rfl) (by kernel_rfl) (by kernel_rfl) rfl rfl rfl (y_loads (cs := [_, _, _]) Try.isAgg36 Try.sizeOf36 rfl rfl rfl (cels_own 0 rfl rfl)) ?_
                          refine d_eff2 (k := 4) (k' := 6) (n := 2) (m := 1) rfl rfl (by kernel_rfl) rfl ?_ ?_
                          · refine o_val rfl rfl rfl (y_load Try.isAgg22 rfl (cel_own 0 rfl rfl)) ?_
                            refine o_nil ?_
                            refine d_eff (k := 6) (n := 2) (m := 1) rfl (by kernel_rfl) rfl ?_
                            refine o_lit (vs := [(0, .agg #[.int _ _, .int _ _, .int _ _])]) rfl rfl (NewN_k1 _ _ _) (fun b41 => ?_)
                            refine o_nil ?_
                            refine d_eff (k := 7) (n := 2) (m := 1) rfl (by kernel_rfl) rfl ?_
                            refine o_append (sz := 3) (bytes := 24) (news := [(.int _ _), (.int _ _), (.int _ _)]) 1 rfl Try.underlying22 Try.type36 rfl rfl rfl rfl rfl ho0 rfl rfl (Src.slice Try.underlying22 (cels_own 3 rfl rfl) rfl (by simp [Value.oneCell']) (by simp)) (by omega) (fun A42 c43 E44 ho45 hn46 => ?_)
                            have ho47 : OS A42 (g.i + 1) c43 36 3 ((ds.take (g.i + 1)).flatMap encD) E44 := os_eq ho45 (by rw [← take_enc (by omega)]; rfl)
                            clear ho45
                            refine o_nil ?_
                            refine d_val (i := 8) rfl (by kernel_rfl) (by kernel_rfl) (by kernel_rfl) rfl rfl rfl (y_nilCheck rfl) ?_
                            refine d_val (i := 9) rfl (by kernel_rfl) (by kernel_rfl) (by kernel_rfl) rfl rfl rfl (y_field0 Try.runUnderlying130 rfl Try.sizeOf22 rfl rfl) ?_
                            refine d_eff (k := 10) (n := 2) (m := 1) rfl (by kernel_rfl) rfl ?_
                            refine o_store (v := (.slice _ _ _)) 0 rfl Try.sizeOf22 rfl rfl rfl rfl ?_
                            refine o_nil ?_
                            refine d_nil (n := 2) (m := 1) (by kernel_rfl) rfl ?_
                            refine s_norm [[(_, .cells [(.int _ _), (.slice _ _ _), (.int _ _), (.int _ _), (.slice _ _ _)].toArray 130 (0, 0))], _, [(_, .cells [(.int _ _), (.int _ _), (.int _ _)].toArray 36 (0, 0))], [(_, .cells [(.int _ _), (.int _ _), (.int _ _)].toArray 36 (0, 0))]] rfl ?_
                            refine s_region ?_
                            refine o_val rfl rfl rfl (y_add rfl rfl (by simp only [inK]; omega)) ?_
                            refine o_val rfl rfl rfl (y_move (v := (.int _ _)) rfl) ?_
                            refine o_nil ?_
                            exact ⟨G1.mk (g.i + 1) A42 0 c43 E44, (by first | omega | (dsimp only; omega)), ⟨by dsimp only; omega, ho47, ok_step hall (by unfold DD.ok; omega)⟩, ⟨rfl, rfl, rfl, (congrArg (Value.int .i64) (by dsimp only; omega)), trivial⟩, sub_front ⟨_, rfl⟩⟩
                          · refine o_lit (vs := [(0, .agg #[.int _ _, .int _ _, .int _ _])]) rfl rfl (NewN_k1 _ _ _) (fun b48 => ?_)
                            refine o_nil ?_
                            refine d_now (i := 4) [] rfl (by kernel_rfl) (by kernel_rfl) (by kernel_rfl) rfl rfl rfl (y_load Try.isAgg22 rfl (cel_own 0 rfl rfl)) trivial ?_
                            refine d_eff (k := 7) (n := 2) (m := 1) rfl (by kernel_rfl) rfl ?_
                            refine o_append (sz := 3) (bytes := 24) (news := [(.int _ _), (.int _ _), (.int _ _)]) 1 rfl Try.underlying22 Try.type36 rfl rfl rfl rfl rfl ho0 rfl rfl (Src.slice Try.underlying22 (cels_own 3 rfl rfl) rfl (by simp [Value.oneCell']) (by simp)) (by omega) (fun A49 c50 E51 ho52 hn53 => ?_)
                            have ho54 : OS A49 (g.i + 1) c50 36 3 ((ds.take (g.i + 1)).flatMap encD) E51 := os_eq ho52 (by rw [← take_enc (by omega)]; rfl)
                            clear ho52
                            refine o_nil ?_
                            refine d_val (i := 8) rfl (by kernel_rfl) (by kernel_rfl) (by kernel_rfl) rfl rfl rfl (y_nilCheck rfl) ?_
                            refine d_val (i := 9) rfl (by kernel_rfl) (by kernel_rfl) (by kernel_rfl) rfl rfl rfl (y_field0 Try.runUnderlying130 rfl Try.sizeOf22 rfl rfl) ?_
                            refine d_eff (k := 10) (n := 2) (m := 1) rfl (by kernel_rfl) rfl ?_
                            refine o_store (v := (.slice _ _ _)) 0 rfl Try.sizeOf22 rfl rfl rfl rfl ?_
                            refine o_nil ?_
                            refine d_nil (n := 2) (m := 1) (by kernel_rfl) rfl ?_
                            refine s_norm [[(_, .cells [(.int _ _), (.slice _ _ _), (.int _ _), (.int _ _), (.slice _ _ _)].toArray 130 (0, 0))], _, [(_, .cells [(.int _ _), (.int _ _), (.int _ _)].toArray 36 (0, 0))], [(_, .cells [(.int _ _), (.int _ _), (.int _ _)].toArray 36 (0, 0))]] rfl ?_
                            refine s_region ?_
                            refine o_val rfl rfl rfl (y_add rfl rfl (by simp only [inK]; omega)) ?_
                            refine o_val rfl rfl rfl (y_move (v := (.int _ _)) rfl) ?_
                            refine o_nil ?_
                            exact ⟨G1.mk (g.i + 1) A49 0 c50 E51, (by first | omega | (dsimp only; omega)), ⟨by dsimp only; omega, ho54, ok_step hall (by unfold DD.ok; omega)⟩, ⟨rfl, rfl, rfl, (congrArg (Value.int .i64) (by dsimp only; omega)), trivial⟩, sub_front ⟨_, rfl⟩⟩
          · refine s_exit ?_
            refine s_seq ?_
            refine s_region ?_
            refine o_val rfl rfl rfl (y_move (v := (.pointer _)) rfl) ?_
            refine o_val rfl rfl rfl (y_assign (v := (.pointer _)) rfl) ?_
            refine o_val rfl rfl rfl (y_assign (v := (.int _ _)) rfl) ?_
            refine o_nil ?_
            refine s_ret ?_
            have e : g.i = n := by omega
            rw [e, List.take_of_length_le (by omega)] at ho0
            exact ⟨_, _, res2 rfl rfl rfl, .inr ⟨by unfold errN; rw [if_neg (by omega), if_neg (by omega), if_pos (ok_all hall (by omega))], _, g.A, g.c, g.E, rfl, ho0, (by rw [e])⟩, sub_two⟩

theorem LeftN_c {V : Mem} (b : Nat) (ends : Int) (dA : Option Addr) (dn dc : Nat) (now sent : Int) (aA : Option Addr) (an ac : Nat) : CallS Try.prog 16 [.pointer (some ⟨b, 0, none⟩)].toArray V [netg b ends dA dn dc now sent aA an ac] (fun r L' => r = .int .i64 an ∧ L' = [netg b ends dA dn dc now sent aA an ac]) := by
  refine callS Try.func16 rfl rfl (fun w0 => ?_)
  refine s_seq ?_
  refine s_region ?_
  refine o_val rfl rfl rfl (y_assign (v := (.int _ _)) rfl) ?_
  refine o_nil ?_
  refine s_seq ?_
  refine s_region ?_
  refine o_val rfl rfl rfl (y_move (v := (.pointer _)) rfl) ?_
  refine o_val rfl rfl rfl (y_nilCheck rfl) ?_
  refine o_val rfl rfl rfl (y_field0 Try.runUnderlying130 rfl Try.sizeOf128 rfl rfl) ?_
  refine o_val rfl rfl rfl (y_load Try.isAgg128 rfl (cel_own 0 rfl rfl)) ?_
  refine o_val rfl rfl rfl (y_len Try.runUnderlying128 rfl) ?_
  refine o_val rfl rfl rfl (y_assign (v := (.int _ _)) rfl) ?_
  refine o_nil ?_
  refine s_ret ?_
  exact ⟨_, _, res1 rfl rfl, ⟨rfl, rfl⟩, sub_front ⟨_, rfl⟩⟩

theorem SentN_c {V : Mem} (b : Nat) (ends : Int) (dA : Option Addr) (dn dc : Nat) (now sent : Int) (aA : Option Addr) (an ac : Nat) : CallS Try.prog 17 [.pointer (some ⟨b, 0, none⟩)].toArray V [netg b ends dA dn dc now sent aA an ac] (fun r L' => r = .int .i64 sent ∧ L' = [netg b ends dA dn dc now sent aA an ac]) := by
  refine callS Try.func17 rfl rfl (fun w0 => ?_)
  refine s_seq ?_
  refine s_region ?_
  refine o_val rfl rfl rfl (y_assign (v := (.int _ _)) rfl) ?_
  refine o_nil ?_
  refine s_seq ?_
  refine s_region ?_
  refine o_val rfl rfl rfl (y_move (v := (.pointer _)) rfl) ?_
  refine o_val rfl rfl rfl (y_nilCheck rfl) ?_
  refine o_val rfl rfl rfl (y_field0 Try.runUnderlying130 rfl Try.sizeOf3 rfl rfl) ?_
  refine o_val rfl rfl rfl (y_load Try.isAgg3 rfl (cel_own 0 rfl rfl)) ?_
  refine o_val rfl rfl rfl (y_assign (v := (.int _ _)) rfl) ?_
  refine o_nil ?_
  refine s_ret ?_
  exact ⟨_, _, res1 rfl rfl, ⟨rfl, rfl⟩, sub_front ⟨_, rfl⟩⟩

def encPk (f : FL) : List Value := [.int .i64 f.src, .int .i64 f.dst, .slice f.A f.n f.c]
theorem encPk_len (f : FL) : (encPk f).length = 3 := rfl
theorem os_dropF {A : Option Addr} {n c : Nat} {T : TypeId} {fs : List FL} {E : Grp} (h : OS A n c T 5 (fs.flatMap encFl) E) (hn : 1 ≤ n) : OS (cutA A c 1 5) (n - 1) (c - 1) T 5 ((fs.drop 1).flatMap encFl) E := by
  have h1 := h.cut hn (Nat.le_refl n)
  have hl : fs.length = n := by have := h.len; rw [flat_len encFl_len] at this; omega
  refine os_eq h1 ?_
  rw [flat_drop encFl_len, flat_take encFl_len, List.take_of_length_le (by simp; omega)]
/-- The state of a step's loop. -/
structure PS where
  k : Nat
  A : Option Addr
  c : Nat
  E : Grp
  B : Option Addr
  e : Nat
  G : Grp
theorem drop_head {fs : List FL} {k : Nat} : ((fs.drop k).getD (0 : Int).toNat default) = fs.getD k default := by
  simp [List.getD_eq_getElem?_getD]
theorem take_due {fs : List FL} {k : Nat} {t : Int} (h : ∀ f ∈ fs.take k, f.due ≤ t) (hk : k < fs.length) (h1 : (fs.getD k default).due ≤ t) : ∀ f ∈ fs.take (k + 1), f.due ≤ t := by
  intro f hf
  rw [List.take_add_one, List.getElem?_eq_getElem hk] at hf
  rcases List.mem_append.1 hf with hf | hf
  · exact h f hf
  · rw [List.getD_eq_getElem?_getD, List.getElem?_eq_getElem hk] at h1
    obtain rfl : f = fs[k] := by simpa using hf
    exact h1

theorem StepN_k0 (v0x0 : Int) (v0x1 : Int) (v0x2A : Option Addr) (v0x2n : Nat) (v0x2c : Nat) (w : World) : (Instr.buildSlice 31 1 ([(0, (.agg #[(.int .i64 v0x0), (.int .i64 v0x1), (.slice v0x2A v0x2n v0x2c)]))] : List (Nat × Value)).toArray).run Try.prog w = .ok (.slice (some ⟨w.heap.size, 0, none⟩) 1 1) { w with heap := w.heap.push (.cells ([.int .i64 v0x0, .int .i64 v0x1, .slice v0x2A v0x2n v0x2c] : List Value).toArray 34 (0, 0)) } := by kernel_rfl
theorem StepN_c {V : Mem} (b : Nat) (ends : Int) (dA : Option Addr) (dn dc : Nat) (now sent : Int) (aA : Option Addr) (an ac : Nat) (fs : List FL) (AG : Grp) (hos : OS aA an ac 133 5 ((fs).flatMap encFl) AG) (hb : an ≤ 33000000) (hnow : 0 ≤ now ∧ now ≤ 1000000) : CallS Try.prog 15 [.pointer (some ⟨b, 0, none⟩)].toArray V [netg b ends dA dn dc now sent aA an ac, AG] (fun r L' => ∃ k A' c' E' B e G, r = .slice B k e ∧ k ≤ fs.length ∧ (∀ f ∈ fs.take k, f.due ≤ now + 1) ∧ (k = fs.length ∨ now + 1 < (fs.getD k default).due) ∧ OS B k e 34 3 ((fs.take k).flatMap encPk) G ∧ OS A' (an - k) c' 133 5 ((fs.drop k).flatMap encFl) E' ∧ L' = [netg b ends dA dn dc (now + 1) sent A' (an - k) c', E', G]) := by
  have hfl : fs.length = an := by have := hos.len; rw [flat_len encFl_len] at this; omega
  refine callS Try.func15 rfl rfl (fun w0 => ?_)
  refine s_seq ?_
  refine s_region ?_
  refine o_val rfl rfl rfl (y_assign (v := (.slice _ _ _)) rfl) ?_
  refine o_nil ?_
  refine s_seq ?_
  refine s_region ?_
  refine o_val rfl rfl rfl (y_move (v := (.pointer _)) rfl) ?_
  refine o_val rfl rfl rfl (y_nilCheck rfl) ?_
  refine o_val rfl rfl rfl (y_field0 Try.runUnderlying130 rfl Try.sizeOf3 rfl rfl) ?_
  refine o_val rfl rfl rfl (y_load Try.isAgg3 rfl (cel_own 0 rfl rfl)) ?_
  refine o_val rfl rfl rfl (y_add rfl rfl (by simp only [inK]; omega)) ?_
  refine o_val rfl rfl rfl (y_nilCheck rfl) ?_
  refine o_val rfl rfl rfl (y_field0 Try.runUnderlying130 rfl Try.sizeOf3 rfl rfl) ?_
  refine o_store (v := (.int _ _)) 0 rfl Try.sizeOf3 rfl rfl rfl rfl ?_
  refine o_nil ?_
  refine s_seq ?_
  refine s_region ?_
  refine o_val rfl rfl rfl (y_assign (v := (.slice _ _ _)) rfl) ?_
  refine o_nil ?_
  refine s_seq ?_
  refine s_block ?_
  refine s_group ?_
  refine s_loop (γ := PS) (fun g => [(0, .pointer (some ⟨b, 0, none⟩)), (3, .slice g.B g.k g.e)]) (fun g => [netg b ends dA dn dc (now + 1) sent g.A (an - g.k) g.c, g.E, g.G]) (fun g => g.k ≤ an ∧ OS g.A (an - g.k) g.c 133 5 ((fs.drop g.k).flatMap encFl) g.E ∧ OS g.B g.k g.e 34 3 ((fs.take g.k).flatMap encPk) g.G ∧ ∀ f ∈ fs.take g.k, f.due ≤ now + 1) (fun g => an - g.k) (PS.mk 0 aA ac AG none 0 []) ?_ ⟨rfl, rfl, trivial⟩ (sub_front ⟨_, rfl⟩) ?_
  · exact ⟨Nat.zero_le _, hos, OS.nil _ _, by simp⟩
  · intro g _f hI
    obtain ⟨hk, hoa, hoo, hdue⟩ := hI
    refine s_seq ?_
    refine s_seq ?_
    refine s_quiet (by kernel_rfl) (by kernel_rfl) ?_
    refine q_val rfl rfl rfl (y_move (v := (.pointer _)) rfl) ?_
    refine q_val rfl rfl rfl (y_nilCheck rfl) ?_
    refine q_val rfl rfl rfl (y_field0 Try.runUnderlying130 rfl Try.sizeOf128 rfl rfl) ?_
    refine q_val rfl rfl rfl (y_load Try.isAgg128 rfl (cel_own 0 rfl rfl)) ?_
    refine q_val rfl rfl rfl (y_len Try.runUnderlying128 rfl) ?_
    refine q_split rfl rfl rfl (y_gtr rfl rfl) (fun p1 => ?_) (fun p2 => ?_)
    · have hpos := p1
      refine q_val rfl rfl rfl (y_move (v := (.bool _)) rfl) ?_
      refine q_guard_yes rfl rfl ?_
      refine q_val rfl rfl rfl (y_move (v := (.pointer _)) rfl) ?_
      refine q_guard_yes rfl rfl ?_
      refine q_val rfl rfl rfl (y_nilCheck rfl) ?_
      refine q_guard_yes rfl rfl ?_
      refine q_val rfl rfl rfl (y_field0 Try.runUnderlying130 rfl Try.sizeOf128 rfl rfl) ?_
      refine q_guard_yes rfl rfl ?_
      refine q_val rfl rfl rfl (y_load Try.isAgg128 rfl (cel_own 0 rfl rfl)) ?_
      refine q_guard_yes rfl rfl ?_
      refine q_val rfl rfl rfl (y_indexAddr Try.runUnderlying128 Try.sizeOf133 (hoa.some_of (by omega)) rfl rfl (by omega)) ?_
      refine q_guard_yes rfl rfl ?_
      refine q_val rfl rfl rfl (y_fieldX (F := 0) Try.runUnderlying133 rfl Try.sizeOf3 rfl (hoa.some_of (by omega)) rfl) ?_
      refine q_guard_yes rfl rfl ?_
      refine q_val rfl rfl rfl (y_load Try.isAgg3 rfl ((cels_at (sz := 5) encFl_len (hoa.cels (j := 1) rfl) (by simp only [List.length_drop]; omega)).cel' (i := 0) rfl)) ?_
      refine q_guard_yes rfl rfl ?_
      refine q_val rfl rfl rfl (y_move (v := (.pointer _)) rfl) ?_
      refine q_guard_yes rfl rfl ?_
      refine q_val rfl rfl rfl (y_nilCheck rfl) ?_
      refine q_guard_yes rfl rfl ?_
      refine q_val rfl rfl rfl (y_field0 Try.runUnderlying130 rfl Try.sizeOf3 rfl rfl) ?_
      refine q_guard_yes rfl rfl ?_
      refine q_val rfl rfl rfl (y_load Try.isAgg3 rfl (cel_own 0 rfl rfl)) ?_
      refine q_guard_yes rfl rfl ?_
      refine q_val rfl rfl rfl (y_leq rfl rfl) ?_
      refine q_val rfl rfl rfl (y_pick_t (v := (.bool _)) rfl rfl) ?_
      refine q_nil ?_
      refine s_if rfl (fun h3 => ?_) (fun h4 => ?_)
      · have hle := h3
        refine s_skip ?_
        refine s_block ?_
        refine s_seq ?_
        refine s_region ?_
        refine o_val rfl rfl rfl (y_move (v := (.slice _ _ _)) rfl) ?_
        refine o_val rfl rfl rfl (y_move (v := (.pointer _)) rfl) ?_
        refine o_val rfl rfl rfl (y_nilCheck rfl) ?_
        refine o_val rfl rfl rfl (y_field0 Try.runUnderlying130 rfl Try.sizeOf128 rfl rfl) ?_
        refine o_val rfl rfl rfl (y_load Try.isAgg128 rfl (cel_own 0 rfl rfl)) ?_
        refine o_val rfl rfl rfl (y_indexAddr Try.runUnderlying128 Try.sizeOf133 (hoa.some_of (by omega)) rfl rfl (by omega)) ?_
        refine o_val rfl rfl rfl (y_fieldX (F := 2) Try.runUnderlying133 rfl Try.sizeOf34 rfl (hoa.some_of (by omega)) rfl) ?_
        refine o_val rfl rfl rfl (y_loads (cs := [_, _, _]) Try.isAgg34 Try.sizeOf34 rfl (by unfold idx; rw [Option.isSome_map]; exact hoa.some_of (by omega)) rfl (cels_off (k := 2) (cels_at (sz := 5) encFl_len (hoa.cels (j := 1) rfl) (by simp only [List.length_drop]; omega)) rfl)) ?_
        refine o_lit (vs := [(0, .agg #[.int _ _, .int _ _, .slice _ _ _])]) rfl rfl (StepN_k0 _ _ _ _ _) (fun b5 => ?_)
        refine o_append (sz := 3) (bytes := 40) (news := [(.int _ _), (.int _ _), (.slice _ _ _)]) 2 rfl Try.underlying31 Try.type34 rfl rfl rfl rfl rfl hoo rfl rfl (Src.slice Try.underlying31 (cels_own 3 rfl rfl) rfl (by simp [Value.oneCell']) (by simp)) (by omega) (fun A6 c7 E8 ho9 hn10 => ?_)
        have ho11 : OS A6 (g.k + 1) c7 34 3 ((fs.take (g.k + 1)).flatMap encPk) E8 := os_eq ho9 (by
            rw [← take_enc (by omega)]
            show _ = _ ++ encPk (fs.getD g.k default)
            rw [← drop_head (fs := fs) (k := g.k)]
            rfl)
        clear ho9
        refine o_val rfl rfl rfl (y_assign (v := (.slice _ _ _)) rfl) ?_
        refine o_nil ?_
        refine s_norm [[(_, .cells [(.int _ _), (.slice _ _ _), (.int _ _), (.int _ _), (.slice _ _ _)].toArray 130 (0, 0))], _, _, [(_, .cells [(.int _ _), (.int _ _), (.slice _ _ _)].toArray 34 (0, 0))]] rfl ?_
        refine s_region ?_
        refine o_val rfl rfl rfl (y_move (v := (.pointer _)) rfl) ?_
        refine o_val rfl rfl rfl (y_move (v := (.pointer _)) rfl) ?_
        refine o_val rfl rfl rfl (y_nilCheck rfl) ?_
        refine o_val rfl rfl rfl (y_field0 Try.runUnderlying130 rfl Try.sizeOf128 rfl rfl) ?_
        refine o_val rfl rfl rfl (y_load Try.isAgg128 rfl (cel_own 0 rfl rfl)) ?_
        refine o_val rfl rfl rfl (y_cut_lo Try.runUnderlying128 Try.sizeOf133 rfl rfl (by omega)) ?_
        have ho2 := os_dropF hoa (by omega)
        refine o_val rfl rfl rfl (y_nilCheck rfl) ?_
        refine o_val rfl rfl rfl (y_field0 Try.runUnderlying130 rfl Try.sizeOf128 rfl rfl) ?_
        refine o_store (v := (.slice _ _ _)) 0 rfl Try.sizeOf128 rfl rfl rfl rfl ?_
        refine o_nil ?_
        exact ⟨PS.mk (g.k + 1) (cutA g.A g.c 1 5) (g.c - 1) g.E A6 c7 E8, (by first | omega | (dsimp only; omega)), ⟨by dsimp only; omega, os_eq ho2 (by rw [List.drop_drop]), ho11, take_due hdue (by omega) (by rw [drop_head] at hle; exact hle)⟩, ⟨rfl, rfl, trivial⟩, sub_picks [0, 0, 0] rfl⟩
      · have hgt := h4
        refine s_exit ?_
        refine s_forget [(3, (.slice _ _ _))] ⟨rfl, trivial⟩ (fun _f => ?_)
        refine s_seq ?_
        refine s_region ?_
        refine o_val rfl rfl rfl (y_move (v := (.slice _ _ _)) rfl) ?_
        refine o_val rfl rfl rfl (y_assign (v := (.slice _ _ _)) rfl) ?_
        refine o_nil ?_
        refine s_ret ?_
        exact ⟨_, _, res1 rfl rfl, ⟨g.k, _, _, _, _, _, _, rfl, by omega, hdue, .inr (by rw [← drop_head]; omega), hoo, hoa, rfl⟩, sub_front ⟨_, rfl⟩⟩
    · have hempty := p2
      refine q_val rfl rfl rfl (y_move (v := (.bool _)) rfl) ?_
      refine q_guard_no rfl rfl rfl rfl rfl ?_
      refine q_guard_no rfl rfl rfl rfl rfl ?_
      refine q_guard_no rfl rfl rfl rfl rfl ?_
      refine q_guard_no rfl rfl rfl rfl rfl ?_
      refine q_guard_no rfl rfl rfl rfl rfl ?_
      refine q_guard_no rfl rfl rfl rfl rfl ?_
      refine q_guard_no rfl rfl rfl rfl rfl ?_
      refine q_guard_no rfl rfl rfl rfl rfl ?_
      refine q_guard_no rfl rfl rfl rfl rfl ?_
      refine q_guard_no rfl rfl rfl rfl rfl ?_
      refine q_guard_no rfl rfl rfl rfl rfl ?_
      refine q_guard_no rfl rfl rfl rfl rfl ?_
      refine q_val rfl rfl rfl (y_pick_f (v := (.bool _)) rfl rfl) ?_
      refine q_nil ?_
      refine s_else rfl ?_
      refine s_exit ?_
      refine s_forget [(3, (.slice _ _ _))] ⟨rfl, trivial⟩ (fun _f => ?_)
      refine s_seq ?_
      refine s_region ?_
      refine o_val rfl rfl rfl (y_move (v := (.slice _ _ _)) rfl) ?_
      refine o_val rfl rfl rfl (y_assign (v := (.slice _ _ _)) rfl) ?_
      refine o_nil ?_
      refine s_ret ?_
      exact ⟨_, _, res1 rfl rfl, ⟨g.k, _, _, _, _, _, _, rfl, by omega, hdue, .inl (by omega), hoo, hoa, rfl⟩, sub_front ⟨_, rfl⟩⟩

end Go.Proofs.Ytdgmocibjjkghaa.K
