/- Walks: a fact of the law on links. No condition beyond what each statement names. -/
import Derived.Test.YtdgmocibjjkghaaProg
import Derived.Test.YtdgmocibjjkghaaK14
import Derived.Test.YtdgmocibjjkghaaB9
import Derived.Test.YtdgmocibjjkghaaN1
import Derived.Test.YtdgmocibjjkghaaN3
import Derived.Test.YtdgmocibjjkghaaN4
import Derived.Test.YtdgmocibjjkghaaL1
import Derived.Test.YtdgmocibjjkghaaL2
import Derived.Test.YtdgmocibjjkghaaL3
import Derived.Test.YtdgmocibjjkghaaL4
import Derived.Test.YtdgmocibjjkghaaL5
import Derived.Test.YtdgmocibjjkghaaL6
import Derived.Test.YtdgmocibjjkghaaL7
import Derived.Test.YtdgmocibjjkghaaL8
import Derived.Test.YtdgmocibjjkghaaL9
set_option linter.unusedVariables false
set_option linter.unusedSimpArgs false
set_option maxRecDepth 100000
namespace Go.Proofs.Ytdgmocibjjkghaa.K
open Go.RowKit

theorem deliversL_k0 (v0 : Int) (w : World) : (Instr.buildSlice 29 1 ([(0, (.int .u8 v0))] : List (Nat × Value)).toArray).run Try.prog w = .ok (.slice (some ⟨w.heap.size, 0, none⟩) 1 1) { w with heap := w.heap.push (.cells ([.int .u8 v0] : List Value).toArray 5 (0, 0)) } := by kernel_rfl
theorem deliversL_c {V : Mem} : CallS Try.prog 28 #[] V [] (fun r L' => r = .bool true ∧ L' = []) := by
  refine callS Try.func28 rfl rfl (fun w0 => ?_)
  refine s_seq ?_
  refine s_region ?_
  refine o_val rfl rfl rfl (y_assign (v := (.bool _)) rfl) ?_
  refine o_nil ?_
  refine s_seq ?_
  refine s_region ?_
  refine o_fn 0 (d := 4) rfl Try.call29 (NewL_c) rfl ?_
  rintro _ _ ⟨e1, rfl, rfl⟩
  refine o_fn 0 (d := 5) rfl Try.call29 (NewL_c) rfl ?_
  rintro _ _ ⟨e2, rfl, rfl⟩
  refine o_val rfl rfl rfl (y_assign (v := (.pointer _)) rfl) ?_
  refine o_val rfl rfl rfl (y_assign (v := (.pointer _)) rfl) ?_
  refine o_nil ?_
  refine s_seq ?_
  refine s_seq ?_
  refine s_region ?_
  refine o_val rfl rfl rfl (y_move (v := (.pointer _)) rfl) ?_
  refine o_val rfl rfl rfl ((y_eql_ptr_nil (by kernel_rfl) rfl rfl).bf rfl) ?_
  refine o_val rfl rfl rfl (y_move (v := (.bool _)) rfl) ?_
  refine o_guard_yes rfl rfl ?_
  refine o_val rfl rfl rfl (y_move (v := (.pointer _)) rfl) ?_
  refine o_guard_yes rfl rfl ?_
  refine o_val rfl rfl rfl ((y_eql_ptr_nil (by kernel_rfl) rfl rfl).bf rfl) ?_
  refine o_val rfl rfl rfl (y_pick_f (v := (.bool _)) rfl rfl) ?_
  refine o_val rfl rfl rfl (y_move (v := (.bool _)) rfl) ?_
  refine o_guard_yes rfl rfl ?_
  refine o_val rfl rfl rfl (y_move (v := (.pointer _)) rfl) ?_
  refine o_guard_yes rfl rfl ?_
  refine o_lit (vs := [(0, .int _ _)]) rfl rfl (deliversL_k0 _) (fun b1 => ?_)
  refine o_newgroup ?_
  refine o_newgroup ?_
  refine o_guard_yes rfl rfl ?_
  refine o_pull 4 ?_
  refine o_pull 4 ?_
  refine o_pull 3 ?_
  refine o_fn 3 (d := 15) rfl Try.call30 (SendL_c e1 0 none 0 0 0 none 0 0 [] [] [] (OS.nil _ _) [] (fun f hf => absurd hf List.not_mem_nil) (by decide) _ 1 1 [7] ⟨rfl, Nat.le_refl _, (cels_own 1 rfl rfl).down, by simp⟩) rfl ?_
  rintro _ _ (⟨hbad, _⟩ | ⟨_, rfl, sA, sc, x, sE, sP, hxb, hso, hsi, rfl⟩)
  · exact absurd hbad (by decide)
  · refine o_guard_yes rfl rfl ?_
    refine o_split rfl rfl rfl (y_neq rfl rfl) (fun p2 => ?_) (fun p3 => ?_)
    · exact absurd rfl p2
    · refine o_val rfl rfl rfl (y_pick_f (v := (.bool _)) rfl rfl) ?_
      refine o_val rfl rfl rfl (y_move (v := (.bool _)) rfl) ?_
      refine o_guard_yes rfl rfl ?_
      refine o_val rfl rfl rfl (y_move (v := (.pointer _)) rfl) ?_
      refine o_guard_yes rfl rfl ?_
      refine o_val rfl rfl rfl (y_move (v := (.pointer _)) rfl) ?_
      refine o_guard_yes rfl rfl ?_
      refine o_fn 3 (d := 21) rfl Try.call31 (OutL_c e1 0 sA (0 + 1) sc 0 none 0 0 ([] ++ [x]) sE sP hso hsi (by decide)) rfl ?_
      rintro _ _ ⟨oB, oc, oE, rfl, hoo, rfl⟩
      have hpp := parse_pkt (next := 0) (first := 0) (bl_bd hsi).1 (by decide) (by decide)
      have hie : inErr (pktOf 0 0 (([] ++ [x] : List FL).map (·.bs))).length (pktOf 0 0 (([] ++ [x] : List FL).map (·.bs))) (0 + ((0 : Nat) : Int)) = 0 := by unfold inErr; rw [hpp]; rfl
      have hln := pkt_len 0 0 (([] ++ [x] : List FL).map (·.bs))
      have hbd := flat_bd (bl_bd hsi).1 8
      have hpb := pkt_byte (next := 0) (first := 0) (bl_bd hsi).2
      generalize hpk : (pktOf 0 0 (([] ++ [x] : List FL).map (·.bs))) = pkt at hoo hie hpp hln hpb ⊢
      refine o_newgroup ?_
      refine o_newgroup ?_
      refine o_newgroup ?_
      refine o_guard_yes rfl rfl ?_
      refine o_pull 8 ?_
      refine o_pull 8 ?_
      refine o_pull 8 ?_
      refine o_pull 7 ?_
      refine o_fn 4 (d := 22) rfl Try.call33 (InL_c e2 0 none 0 0 0 none 0 0 [] [] [] [] [] (OS.nil _ _) (OS.nil _ _) (fun f hf => absurd hf List.not_mem_nil) (by decide) oB pkt.length oc pkt ⟨rfl, hoo.2.1, (hoo.cels (j := 3) rfl).down, hpb⟩ (by omega)) rfl ?_
      rintro _ _ (⟨hbad, _⟩ | ⟨_, rfl, wA2, wc2, gA2, gc2, gs2, gE2, gP2, hgm, hwo2, hgo2, hgi2, rfl⟩)
      · exact absurd hie hbad
      · have hg7 : gs2.map (·.bs) = [[7]] := by rw [hgm, hpp]; simp [recv, hxb]
        have hgl : gs2.length = 1 := by have := congrArg List.length hg7; simpa using this
        have hg0 : (gs2.getD ((0 : Int)).toNat default).bs = [7] := by have := congrArg (fun l : List (List Int) => l.getD 0 []) hg7; rw [map_getD (fs := gs2) (i := 0) (by omega)] at this; exact this
        have hm0 : BlIn gP2 (gs2.getD ((0 : Int)).toNat default) := hgi2 _ (List.mem_append_right _ (getD_memF (ss := gs2) (k := 0) (by omega)))
        refine o_guard_yes rfl rfl ?_
        refine o_val rfl rfl rfl (y_neq rfl rfl) ?_
        refine o_val rfl rfl rfl (y_pick_f (v := (.bool _)) rfl rfl) ?_
        refine o_nil ?_
        refine s_forget [(0, (.bool _)), (1, (.pointer _)), (2, (.pointer _)), (24, (.bool _))] ⟨rfl, rfl, rfl, rfl, trivial⟩ (fun _f => ?_)
        refine s_if rfl (fun h4 => ?_) (fun h5 => ?_)
        · exact absurd rfl h4
        · refine s_skip ?_
          refine s_seq ?_
          refine s_region ?_
          refine o_val rfl rfl rfl (y_move (v := (.pointer _)) rfl) ?_
          refine o_fn 1 (d := 26) rfl Try.call38 (GotL_c e2 _ _ _ _ _ _ _ _) rfl ?_
          rintro _ _ ⟨rfl, rfl⟩
          refine o_val rfl rfl rfl (y_assign (v := (.slice _ _ _)) rfl) ?_
          refine o_nil ?_
          refine s_seq ?_
          refine s_region ?_
          refine o_val rfl rfl rfl (y_move (v := (.slice _ _ _)) rfl) ?_
          refine o_val rfl rfl rfl (y_len Try.runUnderlying60 rfl) ?_
          refine o_split rfl rfl rfl (y_eql rfl rfl) (fun p6 => ?_) (fun p7 => ?_)
          · refine o_val rfl rfl rfl (y_move (v := (.bool _)) rfl) ?_
            refine o_guard_yes rfl rfl ?_
            refine o_val rfl rfl rfl (y_move (v := (.slice _ _ _)) rfl) ?_
            refine o_guard_yes rfl rfl ?_
            refine o_val rfl rfl rfl (y_index1 Try.runUnderlying60 Try.sizeOf29 (hgo2.some_of (by omega)) rfl rfl (by omega)) ?_
            refine o_guard_yes rfl rfl ?_
            refine o_val rfl rfl rfl (y_load Try.isAgg29 rfl (cel_B (hgo2.cels (j := 2) rfl) (by omega))) ?_
            refine o_guard_yes rfl rfl ?_
            refine o_lit (vs := [(0, .int _ _)]) rfl rfl (deliversL_k0 _) (fun b8 => ?_)
            refine o_guard_yes rfl rfl ?_
            refine o_fn 0 (d := 35) rfl Try.call23 (BEqualL_c (gs2.getD ((0 : Int)).toNat default).A (gs2.getD ((0 : Int)).toNat default).n (gs2.getD ((0 : Int)).toNat default).c (gs2.getD ((0 : Int)).toNat default).bs (hm0.at (j := 3) rfl).2.2.1 hm0.1 hm0.2.2.2.2 _ 1 1 [7] (cels_own 9 rfl rfl).down rfl (by simp)) rfl ?_
            rintro _ _ ⟨rfl, rfl⟩
            rw [show decide ((gs2.getD ((0 : Int)).toNat default).bs = ([7] : List Int)) = true from decide_eq_true hg0]
            refine o_val rfl rfl rfl (y_pick_t (v := (.bool _)) rfl rfl) ?_
            refine o_val rfl rfl rfl (y_move (v := (.bool _)) rfl) ?_
            refine o_guard_yes rfl rfl ?_
            refine o_val rfl rfl rfl (y_move (v := (.pointer _)) rfl) ?_
            refine o_guard_yes rfl rfl ?_
            refine o_pull 4 ?_
            refine o_fn 1 (d := 39) rfl Try.call36 (WaitL_c e1 _ _ _ _ _ _ _ _) rfl ?_
            rintro _ _ ⟨rfl, rfl⟩
            refine o_guard_yes rfl rfl ?_
            refine o_val rfl rfl rfl (y_eql rfl rfl) ?_
            refine o_val rfl rfl rfl (y_pick_t (v := (.bool _)) rfl rfl) ?_
            refine o_val rfl rfl rfl (y_assign (v := (.bool _)) rfl) ?_
            refine o_nil ?_
            refine s_forget [(0, (.bool _))] ⟨rfl, trivial⟩ (fun _f => ?_)
            refine s_ret ?_
            exact ⟨_, [], res1 rfl rfl, ⟨rfl, rfl⟩, sub_picks [] rfl⟩
          · exfalso; omega

end Go.Proofs.Ytdgmocibjjkghaa.K
