/- Walks: an end of a link. No condition beyond what each statement names. -/
import Derived.Test.YtdgmocibjjkghaaProg
import Derived.Test.YtdgmocibjjkghaaK14
import Derived.Test.YtdgmocibjjkghaaB9
import Derived.Test.YtdgmocibjjkghaaN1
import Derived.Test.YtdgmocibjjkghaaN3
import Derived.Test.YtdgmocibjjkghaaN4
import Derived.Test.YtdgmocibjjkghaaL1
import Derived.Test.YtdgmocibjjkghaaL2
import Derived.Test.YtdgmocibjjkghaaL3
import Derived.Test.YtdgmocibjjkghaaL4
set_option linter.unusedVariables false
set_option linter.unusedSimpArgs false
set_option maxRecDepth 100000
namespace Go.Proofs.Ytdgmocibjjkghaa.K
open Go.RowKit

/-- An end's own block. -/
def endg (b : Nat) (first : Int) (wA : Option Addr) (wn wc : Nat) (next : Int) (gA : Option Addr) (gn gc : Nat) : Grp := [(b, .cells [.int .i64 first, .slice wA wn wc, .int .i64 next, .slice gA gn gc].toArray 143 (0, 0))]
theorem os_fromB {A : Option Addr} {n c : Nat} {T : TypeId} {fs : List FL} {E : Grp} (h : OS A n c T 1 (fs.flatMap encB) E) {k : Nat} (hk : k ≤ n) : OS (cutA A c k 1) (n - k) (c - k) T 1 ((fs.drop k).flatMap encB) E := by
  have h1 := h.cut hk (Nat.le_refl n)
  have hl : fs.length = n := by have := h.len; rw [flat_len encB_len] at this; omega
  refine os_eq h1 ?_
  rw [flat_drop encB_len, flat_take encB_len, List.take_of_length_le (by simp; omega)]
theorem osl_len {A : Option Addr} {n c : Nat} {T : TypeId} {fs : List FL} {E : Grp} (h : OS A n c T 1 (fs.flatMap encB) E) : fs.length = n := by have := h.len; rw [flat_len encB_len] at this; omega
/-- Messages that are received. -/
def recv (f : Int) (ms : List (List Int)) (next : Int) (new : List (List Int)) : Nat → Int × List (List Int)
  | 0 => (next, new)
  | i + 1 => if f + (i : Int) = (recv f ms next new i).1 then ((recv f ms next new i).1 + 1, (recv f ms next new i).2 ++ [ms.getD i []]) else recv f ms next new i
theorem recv_bd (f : Int) (ms : List (List Int)) (next : Int) (new : List (List Int)) : ∀ i, next ≤ (recv f ms next new i).1 ∧ (recv f ms next new i).1 ≤ next + i ∧ (recv f ms next new i).2.length ≤ new.length + i
  | 0 => ⟨Int.le_refl _, by simp [recv], by simp [recv]⟩
  | i + 1 => by
    have := recv_bd f ms next new i
    rw [recv]
    split
    · refine ⟨?_, ?_, ?_⟩
      · dsimp only; omega
      · dsimp only; omega
      · dsimp only; rw [List.length_append, List.length_singleton]; omega
    · refine ⟨?_, ?_, ?_⟩ <;> omega
theorem msgGo_len : ∀ (k : Nat) (r : List Int) (x : List (List Int) × List Int), msgGo k r = some x → x.1.length = k
  | 0, r, x, h => by
    simp only [msgGo, Option.some.injEq] at h
    rw [← h]; rfl
  | k + 1, r, x, h => by
    rw [msgGo] at h
    split at h
    · cases h
    · obtain ⟨y, hy, rfl⟩ := Option.map_eq_some_iff.1 h
      simp [msgGo_len k _ y hy]
theorem parse_bd {n : Nat} {bs : List Int} (hn : bs.length = n) (hb : ∀ b ∈ bs, 0 ≤ b ∧ b ≤ 255) : 0 ≤ (parse n bs).ack ∧ (parse n bs).ack < 4294967296 ∧ 0 ≤ (parse n bs).first ∧ (parse n bs).first < 4294967296 ∧ (parse n bs).ms.length ≤ 8 := by
  unfold parse
  split
  · simp
  split
  · simp
  split
  · simp
  split
  · simp
  · rename_i h17 _ _ x hx hc
    have h1 := val_bd 4 ((bs.take (((n : Nat) : Int) - 8).toNat).take 4) (by rw [List.length_take, List.length_take]; omega) (fun b hh => hb b (List.mem_of_mem_take (List.mem_of_mem_take hh)))
    have h2 := val_bd 4 (((bs.take (((n : Nat) : Int) - 8).toNat).drop 4).take 4) (by rw [List.length_take, List.length_drop, List.length_take]; omega) (fun b hh => hb b (List.mem_of_mem_take (List.mem_of_mem_drop (List.mem_of_mem_take hh))))
    have h3 := msgGo_len _ _ x hx
    dsimp only
    refine ⟨h1.1, h1.2, h2.1, h2.2, by omega⟩
def inErr (n : Nat) (bs : List Int) (all : Int) : Int := if (parse n bs).err ≠ 0 then (parse n bs).err else if all < (parse n bs).ack then 9 else 0

theorem NewL_k0 (w : World) : (Instr.build 143 ([] : List (Nat × Value)).toArray).run Try.prog w = .ok (.agg #[.int .i64 0, .slice none 0 0, .int .i64 0, .slice none 0 0]) w := by kernel_rfl
theorem NewL_c {V : Mem} : CallS Try.prog 29 #[] V [] (fun r L' => ∃ b, r = .pointer (some ⟨b, 0, none⟩) ∧ L' = [endg b 0 none 0 0 0 none 0 0]) := by
  refine callS Try.func29 rfl rfl (fun w0 => ?_)
  refine s_seq ?_
  refine s_region ?_
  refine o_val rfl rfl rfl (y_assign (v := (.pointer _)) rfl) ?_
  refine o_nil ?_
  refine s_seq ?_
  refine s_region ?_
  refine o_val rfl rfl rfl (y_build (vs := []) rfl (NewL_k0)) ?_
  refine o_box (v := (.agg #[(.int _ _), (.slice _ _ _), (.int _ _), (.slice _ _ _)])) rfl rfl rfl (fun b1 => ?_)
  refine o_val rfl rfl rfl (y_assign (v := (.pointer _)) rfl) ?_
  refine o_nil ?_
  refine s_ret ?_
  exact ⟨_, _, res1 rfl rfl, ⟨_, rfl, rfl⟩, sub_front ⟨_, rfl⟩⟩

theorem WaitL_c {V : Mem} (b : Nat) (first : Int) (wA : Option Addr) (wn wc : Nat) (next : Int) (gA : Option Addr) (gn gc : Nat) : CallS Try.prog 36 [.pointer (some ⟨b, 0, none⟩)].toArray V [endg b first wA wn wc next gA gn gc] (fun r L' => r = .int .i64 wn ∧ L' = [endg b first wA wn wc next gA gn gc]) := by
  refine callS Try.func36 rfl rfl (fun w0 => ?_)
  refine s_seq ?_
  refine s_region ?_
  refine o_val rfl rfl rfl (y_assign (v := (.int _ _)) rfl) ?_
  refine o_nil ?_
  refine s_seq ?_
  refine s_region ?_
  refine o_val rfl rfl rfl (y_move (v := (.pointer _)) rfl) ?_
  refine o_val rfl rfl rfl (y_nilCheck rfl) ?_
  refine o_val rfl rfl rfl (y_field0 Try.runUnderlying143 rfl Try.sizeOf60 rfl rfl) ?_
  refine o_val rfl rfl rfl (y_load Try.isAgg60 rfl (cel_own 0 rfl rfl)) ?_
  refine o_val rfl rfl rfl (y_len Try.runUnderlying60 rfl) ?_
  refine o_val rfl rfl rfl (y_assign (v := (.int _ _)) rfl) ?_
  refine o_nil ?_
  refine s_ret ?_
  exact ⟨_, _, res1 rfl rfl, ⟨rfl, rfl⟩, sub_front ⟨_, rfl⟩⟩

theorem GotL_c {V : Mem} (b : Nat) (first : Int) (wA : Option Addr) (wn wc : Nat) (next : Int) (gA : Option Addr) (gn gc : Nat) : CallS Try.prog 38 [.pointer (some ⟨b, 0, none⟩)].toArray V [endg b first wA wn wc next gA gn gc] (fun r L' => r = .slice gA gn gc ∧ L' = [endg b first wA wn wc next none 0 0]) := by
  refine callS Try.func38 rfl rfl (fun w0 => ?_)
  refine s_seq ?_
  refine s_region ?_
  refine o_val rfl rfl rfl (y_assign (v := (.slice _ _ _)) rfl) ?_
  refine o_nil ?_
  refine s_seq ?_
  refine s_region ?_
  refine o_val rfl rfl rfl (y_move (v := (.pointer _)) rfl) ?_
  refine o_val rfl rfl rfl (y_nilCheck rfl) ?_
  refine o_val rfl rfl rfl (y_field0 Try.runUnderlying143 rfl Try.sizeOf60 rfl rfl) ?_
  refine o_val rfl rfl rfl (y_load Try.isAgg60 rfl (cel_own 0 rfl rfl)) ?_
  refine o_val rfl rfl rfl (y_assign (v := (.slice _ _ _)) rfl) ?_
  refine o_nil ?_
  refine s_seq ?_
  refine s_region ?_
  refine o_val rfl rfl rfl (y_move (v := (.pointer _)) rfl) ?_
  refine o_val rfl rfl rfl (y_nilCheck rfl) ?_
  refine o_val rfl rfl rfl (y_field0 Try.runUnderlying143 rfl Try.sizeOf60 rfl rfl) ?_
  refine o_store (v := (.slice _ _ _)) 0 rfl Try.sizeOf60 rfl rfl rfl rfl ?_
  refine o_nil ?_
  refine s_seq ?_
  refine s_region ?_
  refine o_val rfl rfl rfl (y_move (v := (.slice _ _ _)) rfl) ?_
  refine o_val rfl rfl rfl (y_assign (v := (.slice _ _ _)) rfl) ?_
  refine o_nil ?_
  refine s_ret ?_
  exact ⟨_, _, res1 rfl rfl, ⟨rfl, rfl⟩, sub_front ⟨_, rfl⟩⟩

theorem SendL_k0 (v0A : Option Addr) (v0n : Nat) (v0c : Nat) (w : World) : (Instr.buildSlice 60 1 ([(0, (.slice v0A v0n v0c))] : List (Nat × Value)).toArray).run Try.prog w = .ok (.slice (some ⟨w.heap.size, 0, none⟩) 1 1) { w with heap := w.heap.push (.cells ([.slice v0A v0n v0c] : List Value).toArray 29 (0, 0)) } := by kernel_rfl
theorem SendL_c {V : Mem} (b : Nat) (first : Int) (wA : Option Addr) (wn wc : Nat) (next : Int) (gA : Option Addr) (gn gc : Nat) (ws : List FL) (WG PG : Grp) (ho : OS wA wn wc 29 1 ((ws).flatMap encB) WG) (es : List FL) (hin : ∀ f ∈ es, BlIn PG f) (hw : wn < 500) (A : Option Addr) (n c : Nat) (bs : List Int) (h : BB V A n c bs) : CallS Try.prog 30 [.pointer (some ⟨b, 0, none⟩), .slice A n c].toArray V [endg b first wA wn wc next gA gn gc, WG, PG] (fun r L' => (1000 < n ∧ r = .int .i64 2 ∧ L' = [endg b first wA wn wc next gA gn gc, WG, PG]) ∨ (n ≤ 1000 ∧ r = .int .i64 0 ∧ ∃ A' c' x E' PG', x.bs = bs ∧ OS A' (wn + 1) c' 29 1 ((ws ++ [x]).flatMap encB) E' ∧ (∀ f ∈ es ++ [x], BlIn PG' f) ∧ L' = [endg b first A' (wn + 1) c' next gA gn gc, E', PG'])) := by
  have hfl := osl_len ho
  refine callS Try.func30 rfl rfl (fun w0 => ?_)
  refine s_seq ?_
  refine s_region ?_
  refine o_val rfl rfl rfl (y_assign (v := (.int _ _)) rfl) ?_
  refine o_nil ?_
  refine s_seq ?_
  refine s_seq ?_
  refine s_region ?_
  refine o_val rfl rfl rfl (y_move (v := (.slice _ _ _)) rfl) ?_
  refine o_val rfl rfl rfl (y_len Try.runUnderlying29 rfl) ?_
  refine o_val rfl rfl rfl (y_gtr rfl rfl) ?_
  refine o_nil ?_
  refine s_if rfl (fun h1 => ?_) (fun h2 => ?_)
  · refine s_seq ?_
    refine s_region ?_
    refine o_val rfl rfl rfl (y_assign (v := (.int _ _)) rfl) ?_
    refine o_nil ?_
    refine s_ret ?_
    exact ⟨_, _, res1 rfl rfl, .inl ⟨by omega, rfl, rfl⟩, sub_picks [0, 0, 0] rfl⟩
  · refine s_skip ?_
    refine s_seq ?_
    refine s_seq ?_
    refine s_region ?_
    refine o_val rfl rfl rfl (y_move (v := (.pointer _)) rfl) ?_
    refine o_val rfl rfl rfl (y_nilCheck rfl) ?_
    refine o_val rfl rfl rfl (y_field0 Try.runUnderlying143 rfl Try.sizeOf60 rfl rfl) ?_
    refine o_val rfl rfl rfl (y_load Try.isAgg60 rfl (cel_own 0 rfl rfl)) ?_
    refine o_val rfl rfl rfl (y_len Try.runUnderlying60 rfl) ?_
    refine o_val rfl rfl rfl (y_eql rfl rfl) ?_
    refine o_nil ?_
    refine s_if rfl (fun h3 => ?_) (fun h4 => ?_)
    · exfalso; omega
    · refine s_skip ?_
      refine s_seq ?_
      refine s_pull 2 ?_
      refine s_pull 2 ?_
      refine s_pull 2 ?_
      refine s_drawn 3 (by kernel_rfl) ?_
      refine d_val (i := 0) rfl (by kernel_rfl) (by kernel_rfl) (by kernel_rfl) rfl rfl rfl (y_move (v := (.pointer _)) rfl) ?_
      refine d_val (i := 1) rfl (by kernel_rfl) (by kernel_rfl) (by kernel_rfl) rfl rfl rfl (y_move (v := (.pointer _)) rfl) ?_
      refine d_val (i := 2) rfl (by kernel_rfl) (by kernel_rfl) (by kernel_rfl) rfl rfl rfl (y_nilCheck rfl) ?_
      refine d_val (i := 3) rfl (by kernel_rfl) (by kernel_rfl) (by kernel_rfl) rfl rfl rfl (y_field0 Try.runUnderlying143 rfl Try.sizeOf60 rfl rfl) ?_
      refine d_val (i := 5) rfl (by kernel_rfl) (by kernel_rfl) (by kernel_rfl) rfl rfl rfl (y_move (v := (.slice _ _ _)) rfl) ?_
      refine d_eff2 (k := 4) (k' := 6) (n := 0) (m := 0) rfl rfl (by kernel_rfl) rfl ?_ ?_
      · refine o_val rfl rfl rfl (y_load Try.isAgg60 rfl (cel_own 0 rfl rfl)) ?_
        refine o_nil ?_
        refine d_eff (k := 6) (n := 0) (m := 0) rfl (by kernel_rfl) rfl ?_
        refine o_fn 0 (d := 20) rfl Try.call68 (BClone_c _ _ _ bs h.lift.2.2.1 h.1 (by omega)) rfl ?_
        rintro _ _ ⟨cB, ce, cG, rfl, hco, rfl⟩
        have hall := blin_snoc hin (BlIn.new (PG := PG) hco (by omega) h.2.2.2)
        refine o_pull 3 ?_
        refine o_pull 1 ?_
        refine o_fuse ?_
        refine o_nil ?_
        refine d_eff (k := 7) (n := 0) (m := 0) rfl (by kernel_rfl) rfl ?_
        refine o_lit (vs := [(0, .slice _ _ _)]) rfl rfl (SendL_k0 _ _ _) (fun b5 => ?_)
        refine o_nil ?_
        refine d_eff (k := 8) (n := 0) (m := 0) rfl (by kernel_rfl) rfl ?_
        refine o_append (sz := 1) (bytes := 24) (news := [(.slice _ _ _)]) 2 rfl Try.underlying60 Try.type29 rfl rfl rfl rfl rfl ho rfl rfl (Src.slice Try.underlying60 (cels_own 3 rfl rfl) rfl (by simp [Value.oneCell']) (by simp)) (by omega) (fun A6 c7 E8 ho9 hn10 => ?_)
        have ho11 : OS A6 (wn + 1) c7 29 1 ((ws ++ [fl cB n ce bs]).flatMap encB) E8 := (os_eq ho9 (by rw [List.flatMap_append]; rfl))
        clear ho9
        refine o_nil ?_
        refine d_val (i := 9) rfl (by kernel_rfl) (by kernel_rfl) (by kernel_rfl) rfl rfl rfl (y_nilCheck rfl) ?_
        refine d_val (i := 10) rfl (by kernel_rfl) (by kernel_rfl) (by kernel_rfl) rfl rfl rfl (y_field0 Try.runUnderlying143 rfl Try.sizeOf60 rfl rfl) ?_
        refine d_eff (k := 11) (n := 0) (m := 0) rfl (by kernel_rfl) rfl ?_
        refine o_store (v := (.slice _ _ _)) 1 rfl Try.sizeOf60 rfl rfl rfl rfl ?_
        refine o_nil ?_
        refine d_nil (n := 0) (m := 0) (by kernel_rfl) rfl ?_
        refine s_norm [_, [(_, .cells [(.int _ _), (.slice _ _ _), (.int _ _), (.slice _ _ _)].toArray 143 (0, 0))], _, [(_, .cells [(.slice _ _ _)].toArray 29 (0, 0))]] rfl ?_
        refine s_forget [(4, (.int _ _))] ⟨rfl, trivial⟩ (fun _f => ?_)
        refine s_seq ?_
        refine s_region ?_
        refine o_val rfl rfl rfl (y_assign (v := (.int _ _)) rfl) ?_
        refine o_nil ?_
        refine s_ret ?_
        exact ⟨_, _, res1 rfl rfl, .inr ⟨by omega, rfl, _, _, fl cB n ce bs, _, _, rfl, ho11, hall, rfl⟩, sub_picks [1, 1, 0] rfl⟩
      · refine o_fn 0 (d := 20) rfl Try.call68 (BClone_c _ _ _ bs h.lift.2.2.1 h.1 (by omega)) rfl ?_
        rintro _ _ ⟨cB, ce, cG, rfl, hco, rfl⟩
        have hall := blin_snoc hin (BlIn.new (PG := PG) hco (by omega) h.2.2.2)
        refine o_pull 3 ?_
        refine o_pull 1 ?_
        refine o_fuse ?_
        refine o_nil ?_
        refine d_eff2 (k := 4) (k' := 7) (n := 0) (m := 0) rfl rfl (by kernel_rfl) rfl ?_ ?_
        · refine o_val rfl rfl rfl (y_load Try.isAgg60 rfl (cel_own 1 rfl rfl)) ?_
          refine o_nil ?_
          refine d_eff (k := 7) (n := 0) (m := 0) rfl (by kernel_rfl) rfl ?_
          refine o_lit (vs := [(0, .slice _ _ _)]) rfl rfl (SendL_k0 _ _ _) (fun b12 => ?_)
          refine o_nil ?_
          refine d_eff (k := 8) (n := 0) (m := 0) rfl (by kernel_rfl) rfl ?_
          refine o_append (sz := 1) (bytes := 24) (news := [(.slice _ _ _)]) 2 rfl Try.underlying60 Try.type29 rfl rfl rfl rfl rfl ho rfl rfl (Src.slice Try.underlying60 (cels_own 3 rfl rfl) rfl (by simp [Value.oneCell']) (by simp)) (by omega) (fun A13 c14 E15 ho16 hn17 => ?_)
          have ho18 : OS A13 (wn + 1) c14 29 1 ((ws ++ [fl cB n ce bs]).flatMap encB) E15 := (os_eq ho16 (by rw [List.flatMap_append]; rfl))
          clear ho16
          refine o_nil ?_
          refine d_val (i := 9) rfl (by kernel_rfl) (by kernel_rfl) (by kernel_rfl) rfl rfl rfl (y_nilCheck rfl) ?_
          refine d_val (i := 10) rfl (by kernel_rfl) (by kernel_rfl) (by kernel_rfl) rfl rfl rfl (y_field0 Try.runUnderlying143 rfl Try.sizeOf60 rfl rfl) ?_
          refine d_eff (k := 11) (n := 0) (m := 0) rfl (by kernel_rfl) rfl ?_
          refine o_store (v := (.slice _ _ _)) 1 rfl Try.sizeOf60 rfl rfl rfl rfl ?_
          refine o_nil ?_
          refine d_nil (n := 0) (m := 0) (by kernel_rfl) rfl ?_
          refine s_norm [_, [(_, .cells [(.int _ _), (.slice _ _ _), (.int _ _), (.slice _ _ _)].toArray 143 (0, 0))], _, [(_, .cells [(.slice _ _ _)].toArray 29 (0, 0))]] rfl ?_
          refine s_forget [(4, (.int _ _))] ⟨rfl, trivial⟩ (fun _f => ?_)
          refine s_seq ?_
          refine s_region ?_
          refine o_val rfl rfl rfl (y_assign (v := (.int _ _)) rfl) ?_
          refine o_nil ?_
          refine s_ret ?_
          exact ⟨_, _, res1 rfl rfl, .inr ⟨by omega, rfl, _, _, fl cB n ce bs, _, _, rfl, ho18, hall, rfl⟩, sub_picks [1, 1, 0] rfl⟩
        · refine o_lit (vs := [(0, .slice _ _ _)]) rfl rfl (SendL_k0 _ _ _) (fun b19 => ?_)
          refine o_nil ?_
          refine d_now (i := 4) [] rfl (by kernel_rfl) (by kernel_rfl) (by kernel_rfl) rfl rfl rfl (y_load Try.isAgg60 rfl (cel_own 1 rfl rfl)) trivial ?_
          refine d_eff (k := 8) (n := 0) (m := 0) rfl (by kernel_rfl) rfl ?_
          refine o_append (sz := 1) (bytes := 24) (news := [(.slice _ _ _)]) 2 rfl Try.underlying60 Try.type29 rfl rfl rfl rfl rfl ho rfl rfl (Src.slice Try.underlying60 (cels_own 3 rfl rfl) rfl (by simp [Value.oneCell']) (by simp)) (by omega) (fun A20 c21 E22 ho23 hn24 => ?_)
          have ho25 : OS A20 (wn + 1) c21 29 1 ((ws ++ [fl cB n ce bs]).flatMap encB) E22 := (os_eq ho23 (by rw [List.flatMap_append]; rfl))
          clear ho23
          refine o_nil ?_
          refine d_val (i := 9) rfl (by kernel_rfl) (by kernel_rfl) (by kernel_rfl) rfl rfl rfl (y_nilCheck rfl) ?_
          refine d_val (i := 10) rfl (by kernel_rfl) (by kernel_rfl) (by kernel_rfl) rfl rfl rfl (y_field0 Try.runUnderlying143 rfl Try.sizeOf60 rfl rfl) ?_
          refine d_eff (k := 11) (n := 0) (m := 0) rfl (by kernel_rfl) rfl ?_
          refine o_store (v := (.slice _ _ _)) 1 rfl Try.sizeOf60 rfl rfl rfl rfl ?_
          refine o_nil ?_
          refine d_nil (n := 0) (m := 0) (by kernel_rfl) rfl ?_
          refine s_norm [_, [(_, .cells [(.int _ _), (.slice _ _ _), (.int _ _), (.slice _ _ _)].toArray 143 (0, 0))], _, [(_, .cells [(.slice _ _ _)].toArray 29 (0, 0))]] rfl ?_
          refine s_forget [(4, (.int _ _))] ⟨rfl, trivial⟩ (fun _f => ?_)
          refine s_seq ?_
          refine s_region ?_
          refine o_val rfl rfl rfl (y_assign (v := (.int _ _)) rfl) ?_
          refine o_nil ?_
          refine s_ret ?_
          exact ⟨_, _, res1 rfl rfl, .inr ⟨by omega, rfl, _, _, fl cB n ce bs, _, _, rfl, ho25, hall, rfl⟩, sub_picks [1, 1, 0] rfl⟩

theorem recv_yes {f : Int} {ms : List (List Int)} {next : Int} {new : List (List Int)} {i : Nat} (h : f + ((i : Nat) : Int) = (recv f ms next new i).1) : recv f ms next new (i + 1) = ((recv f ms next new i).1 + 1, (recv f ms next new i).2 ++ [ms.getD i []]) := by
  rw [recv, if_pos h]
theorem recv_no {f : Int} {ms : List (List Int)} {next : Int} {new : List (List Int)} {i : Nat} (h : ¬ f + ((i : Nat) : Int) = (recv f ms next new i).1) : recv f ms next new (i + 1) = recv f ms next new i := by
  rw [recv, if_neg h]
theorem map_getD {fs : List FL} {i : Nat} (h : i < fs.length) : (fs.map (·.bs)).getD i [] = (fs.getD ((i : Nat) : Int).toNat default).bs := by
  rw [Int.toNat_natCast, List.getD_eq_getElem?_getD, List.getD_eq_getElem?_getD, List.getElem?_map, List.getElem?_eq_getElem h]; rfl
structure IL where
  i : Nat
  A : Option Addr
  c : Nat
  gs : List FL
  E : Grp

theorem InL_k0 (v0A : Option Addr) (v0n : Nat) (v0c : Nat) (w : World) : (Instr.buildSlice 60 1 ([(0, (.slice v0A v0n v0c))] : List (Nat × Value)).toArray).run Try.prog w = .ok (.slice (some ⟨w.heap.size, 0, none⟩) 1 1) { w with heap := w.heap.push (.cells ([.slice v0A v0n v0c] : List Value).toArray 29 (0, 0)) } := by kernel_rfl
theorem InL_c {V : Mem} (b : Nat) (first : Int) (wA : Option Addr) (wn wc : Nat) (next : Int) (gA : Option Addr) (gn gc : Nat) (ws : List FL) (WG : Grp) (gs : List FL) (GG PG : Grp) (how : OS wA wn wc 29 1 ((ws).flatMap encB) WG) (hog : OS gA gn gc 29 1 ((gs).flatMap encB) GG) (hin : ∀ f ∈ ws ++ gs, BlIn PG f) (hf : 0 ≤ first ∧ first ≤ 1000000 ∧ wn ≤ 1000000 ∧ 0 ≤ next ∧ next ≤ 1000000 ∧ gn ≤ 1000000) (A : Option Addr) (n c : Nat) (bs : List Int) (h : BB V A n c bs) (hb : n ≤ 140737488355328) : CallS Try.prog 33 [.pointer (some ⟨b, 0, none⟩), .slice A n c].toArray V [endg b first wA wn wc next gA gn gc, WG, GG, PG] (fun r L' => ((inErr n bs (first + wn)) ≠ 0 ∧ r = .int .i64 (inErr n bs (first + wn)) ∧ ∃ PG', (∀ f ∈ ws ++ gs, BlIn PG' f) ∧ L' = [endg b first wA wn wc next gA gn gc, WG, GG, PG']) ∨ ((inErr n bs (first + wn)) = 0 ∧ r = .int .i64 0 ∧ ∃ wA' wc' gA' gc' gs' E' PG', gs'.map (·.bs) = (recv (parse n bs).first (parse n bs).ms next (gs.map (·.bs)) (parse n bs).ms.length).2 ∧ OS wA' (wn - (max first (parse n bs).ack - first).toNat) wc' 29 1 ((ws.drop (max first (parse n bs).ack - first).toNat).flatMap encB) WG ∧ OS gA' gs'.length gc' 29 1 ((gs').flatMap encB) E' ∧ (∀ f ∈ ws.drop (max first (parse n bs).ack - first).toNat ++ gs', BlIn PG' f) ∧ L' = [endg b ((max first (parse n bs).ack)) wA' ((wn - (max first (parse n bs).ack - first).toNat)) wc' ((recv (parse n bs).first (parse n bs).ms next (gs.map (·.bs)) (parse n bs).ms.length).1) gA' gs'.length gc', WG, E', PG'])) := by
  have hwl := osl_len how
  have hgl := osl_len hog
  have hpb := parse_bd h.1 h.2.2.2
  refine callS Try.func33 rfl rfl (fun w0 => ?_)
  refine s_seq ?_
  refine s_region ?_
  refine o_val rfl rfl rfl (y_assign (v := (.int _ _)) rfl) ?_
  refine o_nil ?_
  refine s_seq ?_
  refine s_region ?_
  refine o_val rfl rfl rfl (y_move (v := (.slice _ _ _)) rfl) ?_
  refine o_fn 0 (d := 13) rfl Try.call78 (OpenL_c _ _ _ bs h.lift (by omega)) rfl ?_
  rintro _ _ (⟨hbad, rfl, rfl⟩ | ⟨hok, mA, mc, fs, ME, MP, rfl, hms, hom, hmi, rfl⟩)
  · refine o_val rfl rfl rfl (y_move (v := (.tuple #[(.int _ _), (.int _ _), (.slice _ _ _), (.int _ _)])) rfl) ?_
    refine o_val rfl rfl rfl (y_extract (v := (.int _ _)) rfl rfl) ?_
    refine o_val rfl rfl rfl (y_extract (v := (.int _ _)) rfl rfl) ?_
    refine o_val rfl rfl rfl (y_extract (v := (.slice _ _ _)) rfl rfl) ?_
    refine o_val rfl rfl rfl (y_extract (v := (.int _ _)) rfl rfl) ?_
    refine o_val rfl rfl rfl (y_assign (v := (.int _ _)) rfl) ?_
    refine o_val rfl rfl rfl (y_assign (v := (.int _ _)) rfl) ?_
    refine o_val rfl rfl rfl (y_assign (v := (.slice _ _ _)) rfl) ?_
    refine o_val rfl rfl rfl (y_assign (v := (.int _ _)) rfl) ?_
    refine o_nil ?_
    refine s_forget [(0, (.pointer _)), (4, (.int _ _)), (5, (.int _ _)), (6, (.int _ _)), (7, (.slice _ _ _)), (8, (.int _ _))] ⟨rfl, rfl, rfl, rfl, rfl, rfl, trivial⟩ (fun _f => ?_)
    refine s_seq ?_
    refine s_seq ?_
    refine s_region ?_
    refine o_val rfl rfl rfl (y_move (v := (.int _ _)) rfl) ?_
    refine o_val rfl rfl rfl (y_neq rfl rfl) ?_
    refine o_nil ?_
    refine s_if rfl (fun h1 => ?_) (fun h2 => ?_)
    · refine s_seq ?_
      refine s_region ?_
      refine o_val rfl rfl rfl (y_move (v := (.int _ _)) rfl) ?_
      refine o_val rfl rfl rfl (y_assign (v := (.int _ _)) rfl) ?_
      refine o_nil ?_
      refine s_ret ?_
      have he : (inErr n bs (first + wn)) = (parse n bs).err := by unfold inErr; rw [if_pos hbad]
      exact ⟨_, _, res1 rfl rfl, .inl ⟨by rw [he]; exact hbad, congrArg (Value.int .i64) he.symm, _, hin, rfl⟩, sub_picks [0, 0, 0, 0] rfl⟩
    · exact absurd hbad h2
  · have hml2 : (parse n bs).ms.length = fs.length := by rw [hms, List.length_map]
    have hall0 : ∀ f ∈ ws ++ gs ++ fs, BlIn (MP ++ PG) f := fun f hf => (List.mem_append.1 hf).elim (fun hf => (hin f hf).grow) (fun hf => (hmi f hf).grow')
    refine o_pull 5 ?_
    refine o_pull 2 ?_
    refine o_fuse ?_
    refine o_val rfl rfl rfl (y_move (v := (.tuple #[(.int _ _), (.int _ _), (.slice _ _ _), (.int _ _)])) rfl) ?_
    refine o_val rfl rfl rfl (y_extract (v := (.int _ _)) rfl rfl) ?_
    refine o_val rfl rfl rfl (y_extract (v := (.int _ _)) rfl rfl) ?_
    refine o_val rfl rfl rfl (y_extract (v := (.slice _ _ _)) rfl rfl) ?_
    refine o_val rfl rfl rfl (y_extract (v := (.int _ _)) rfl rfl) ?_
    refine o_val rfl rfl rfl (y_assign (v := (.int _ _)) rfl) ?_
    refine o_val rfl rfl rfl (y_assign (v := (.int _ _)) rfl) ?_
    refine o_val rfl rfl rfl (y_assign (v := (.slice _ _ _)) rfl) ?_
    refine o_val rfl rfl rfl (y_assign (v := (.int _ _)) rfl) ?_
    refine o_nil ?_
    refine s_forget [(0, (.pointer _)), (4, (.int _ _)), (5, (.int _ _)), (6, (.int _ _)), (7, (.slice _ _ _)), (8, (.int _ _))] ⟨rfl, rfl, rfl, rfl, rfl, rfl, trivial⟩ (fun _f => ?_)
    refine s_seq ?_
    refine s_seq ?_
    refine s_region ?_
    refine o_val rfl rfl rfl (y_move (v := (.int _ _)) rfl) ?_
    refine o_val rfl rfl rfl (y_neq rfl rfl) ?_
    refine o_nil ?_
    refine s_if rfl (fun h3 => ?_) (fun h4 => ?_)
    · exact absurd rfl h3
    · refine s_skip ?_
      refine s_seq ?_
      refine s_seq ?_
      refine s_quiet (by kernel_rfl) (by kernel_rfl) ?_
      refine q_val rfl rfl rfl (y_move (v := (.int _ _)) rfl) ?_
      refine q_val rfl rfl rfl (y_move (v := (.pointer _)) rfl) ?_
      refine q_val rfl rfl rfl (y_nilCheck rfl) ?_
      refine q_val rfl rfl rfl (y_field0 Try.runUnderlying143 rfl Try.sizeOf3 rfl rfl) ?_
      refine q_val rfl rfl rfl (y_load Try.isAgg3 rfl (cel_own 2 rfl rfl)) ?_
      refine q_val rfl rfl rfl (y_move (v := (.pointer _)) rfl) ?_
      refine q_val rfl rfl rfl (y_nilCheck rfl) ?_
      refine q_val rfl rfl rfl (y_field0 Try.runUnderlying143 rfl Try.sizeOf60 rfl rfl) ?_
      refine q_val rfl rfl rfl (y_load Try.isAgg60 rfl (cel_own 2 rfl rfl)) ?_
      refine q_val rfl rfl rfl (y_len Try.runUnderlying60 rfl) ?_
      refine q_val rfl rfl rfl (y_add rfl rfl (by simp only [inK]; omega)) ?_
      refine q_val rfl rfl rfl (y_gtr rfl rfl) ?_
      refine q_nil ?_
      refine s_forget [(0, (.pointer _)), (4, (.int _ _)), (5, (.int _ _)), (6, (.int _ _)), (7, (.slice _ _ _)), (32, (.bool _))] ⟨rfl, rfl, rfl, rfl, rfl, rfl, trivial⟩ (fun _f => ?_)
      refine s_if rfl (fun h5 => ?_) (fun h6 => ?_)
      · refine s_seq ?_
        refine s_region ?_
        refine o_val rfl rfl rfl (y_assign (v := (.int _ _)) rfl) ?_
        refine o_nil ?_
        refine s_ret ?_
        have he : (inErr n bs (first + wn)) = 9 := by unfold inErr; rw [if_neg (by omega), if_pos (by omega)]
        exact ⟨_, _, res1 rfl rfl, .inl ⟨by rw [he]; decide, congrArg (Value.int .i64) he.symm, _, (fun f hf => hall0 f (List.mem_append_left _ hf)), rfl⟩, sub_picks [2, 2, 2, 0] rfl⟩
      · refine s_skip ?_
        refine s_seq ?_
        refine s_seq ?_
        refine s_region ?_
        refine o_val rfl rfl rfl (y_move (v := (.int _ _)) rfl) ?_
        refine o_val rfl rfl rfl (y_move (v := (.pointer _)) rfl) ?_
        refine o_val rfl rfl rfl (y_nilCheck rfl) ?_
        refine o_val rfl rfl rfl (y_field0 Try.runUnderlying143 rfl Try.sizeOf3 rfl rfl) ?_
        refine o_val rfl rfl rfl (y_load Try.isAgg3 rfl (cel_own 2 rfl rfl)) ?_
        refine o_val rfl rfl rfl (y_gtr rfl rfl) ?_
        refine o_nil ?_
        refine s_if rfl (fun h7 => ?_) (fun h8 => ?_)
        · refine s_seq ?_
          refine s_tail 14 (by kernel_rfl) (by kernel_rfl) ?_
          refine t_val rfl rfl rfl (y_move (v := (.pointer _)) rfl) ?_
          refine t_val rfl rfl rfl (y_move (v := (.pointer _)) rfl) ?_
          refine t_val rfl rfl rfl (y_nilCheck rfl) ?_
          refine t_val rfl rfl rfl (y_field0 Try.runUnderlying143 rfl Try.sizeOf60 rfl rfl) ?_
          refine t_val rfl rfl rfl (y_load Try.isAgg60 rfl (cel_own 2 rfl rfl)) ?_
          refine t_val rfl rfl rfl (y_move (v := (.int _ _)) rfl) ?_
          refine t_val rfl rfl rfl (y_move (v := (.pointer _)) rfl) ?_
          refine t_val rfl rfl rfl (y_nilCheck rfl) ?_
          refine t_val rfl rfl rfl (y_field0 Try.runUnderlying143 rfl Try.sizeOf3 rfl rfl) ?_
          refine t_val rfl rfl rfl (y_load Try.isAgg3 rfl (cel_own 2 rfl rfl)) ?_
          refine t_val rfl rfl rfl (y_sub rfl rfl (by simp only [inK]; omega)) ?_
          refine t_val rfl rfl rfl (y_cut_lo Try.runUnderlying60 Try.sizeOf29 rfl rfl (by omega)) ?_
          refine t_val rfl rfl rfl (y_nilCheck rfl) ?_
          refine t_val rfl rfl rfl (y_field0 Try.runUnderlying143 rfl Try.sizeOf60 rfl rfl) ?_
          refine t_nil ?_
          refine o_store (v := (.slice _ _ _)) 2 rfl Try.sizeOf60 rfl rfl rfl rfl ?_
          refine o_nil ?_
          refine s_forget [(0, (.pointer _)), (4, (.int _ _)), (5, (.int _ _)), (6, (.int _ _)), (7, (.slice _ _ _))] ⟨rfl, rfl, rfl, rfl, rfl, trivial⟩ (fun _f => ?_)
          refine s_region ?_
          have how2 := os_fromB how (k := ((parse n bs).ack - first).toNat) (by omega)
          refine o_val rfl rfl rfl (y_move (v := (.pointer _)) rfl) ?_
          refine o_val rfl rfl rfl (y_move (v := (.int _ _)) rfl) ?_
          refine o_val rfl rfl rfl (y_nilCheck rfl) ?_
          refine o_val rfl rfl rfl (y_field0 Try.runUnderlying143 rfl Try.sizeOf3 rfl rfl) ?_
          refine o_store (v := (.int _ _)) 2 rfl Try.sizeOf3 rfl rfl rfl rfl ?_
          refine o_nil ?_
          refine s_norm [_, _, [(_, .cells [(.int _ _), (.slice _ _ _), (.int _ _), (.slice _ _ _)].toArray 143 (0, 0))], _, _] rfl ?_
          refine s_seq ?_
          refine s_seq ?_
          refine s_region ?_
          refine o_val rfl rfl rfl (y_move (v := (.slice _ _ _)) rfl) ?_
          refine o_val rfl rfl rfl (y_len Try.runUnderlying60 rfl) ?_
          refine o_val rfl rfl rfl (y_move (v := (.int _ _)) rfl) ?_
          refine o_nil ?_
          refine s_block ?_
          refine s_sub_picks [2, 2, 2, 0, 0] rfl ?_
          refine s_loop (γ := IL) (fun u => [(0, .pointer (some ⟨b, 0, none⟩)), (6, .int .i64 (parse n bs).first), (57, .slice mA fs.length mc), (58, .int .i64 fs.length), (59, .int .i64 u.i)]) (fun u => [endg b ((parse n bs).ack) ((cutA wA wc ((parse n bs).ack - first).toNat 1)) ((wn - ((parse n bs).ack - first).toNat)) ((wc - ((parse n bs).ack - first).toNat)) ((recv (parse n bs).first (fs.map (·.bs)) next (gs.map (·.bs)) u.i).1) u.A u.gs.length u.c, WG, u.E, (MP ++ PG), ME]) (fun u => u.i ≤ fs.length ∧ OS u.A u.gs.length u.c 29 1 ((u.gs).flatMap encB) u.E ∧ u.gs.map (·.bs) = (recv (parse n bs).first (fs.map (·.bs)) next (gs.map (·.bs)) u.i).2 ∧ (∀ f ∈ u.gs, f ∈ gs ∨ f ∈ fs)) (fun u => fs.length - u.i) (IL.mk 0 gA gc gs GG) ?_ ⟨rfl, rfl, rfl, rfl, rfl, trivial⟩ (by dsimp only; rw [hgl]; exact sub_front ⟨_, rfl⟩) ?_
          · exact ⟨Nat.zero_le _, (by dsimp only; rw [hgl]; exact hog), rfl, fun f hf => .inl hf⟩
          · intro u _f hJ
            obtain ⟨hi, hog2, hmap, hmem⟩ := hJ
            have hrb := recv_bd (parse n bs).first (fs.map (·.bs)) next (gs.map (·.bs)) u.i
            have hml := congrArg List.length hmap
            rw [List.length_map] at hml hrb
            refine s_seq ?_
            refine s_region ?_
            refine o_val rfl rfl rfl (y_lss rfl rfl) ?_
            refine o_nil ?_
            refine s_seq ?_
            refine s_if rfl (fun h9 => ?_) (fun h10 => ?_)
            · refine s_skip ?_
              refine s_seq ?_
              refine s_block ?_
              refine s_seq ?_
              refine s_region ?_
              refine o_val rfl rfl rfl (y_move (v := (.int _ _)) rfl) ?_
              refine o_val rfl rfl rfl (y_index1 Try.runUnderlying60 Try.sizeOf29 (hom.some_of (by omega)) rfl rfl (by omega)) ?_
              refine o_val rfl rfl rfl (y_load Try.isAgg29 rfl (cel_B (hom.cels (j := 4) rfl) (by omega))) ?_
              refine o_val rfl rfl rfl (y_assign (v := (.int _ _)) rfl) ?_
              refine o_val rfl rfl rfl (y_assign (v := (.slice _ _ _)) rfl) ?_
              refine o_nil ?_
              refine s_seq ?_
              refine s_region ?_
              refine o_val rfl rfl rfl (y_move (v := (.int _ _)) rfl) ?_
              refine o_val rfl rfl rfl (y_move (v := (.int _ _)) rfl) ?_
              refine o_val rfl rfl rfl (y_add rfl rfl (by simp only [inK]; omega)) ?_
              refine o_val rfl rfl rfl (y_move (v := (.pointer _)) rfl) ?_
              refine o_val rfl rfl rfl (y_nilCheck rfl) ?_
              refine o_val rfl rfl rfl (y_field0 Try.runUnderlying143 rfl Try.sizeOf3 rfl rfl) ?_
              refine o_val rfl rfl rfl (y_load Try.isAgg3 rfl (cel_own 0 rfl rfl)) ?_
              refine o_val rfl rfl rfl (y_eql rfl rfl) ?_
              refine o_nil ?_
              refine s_if rfl (fun h11 => ?_) (fun h12 => ?_)
              · have hyes := h11
                refine s_seq ?_
                refine s_region ?_
                refine o_val rfl rfl rfl (y_move (v := (.pointer _)) rfl) ?_
                refine o_val rfl rfl rfl (y_move (v := (.pointer _)) rfl) ?_
                refine o_val rfl rfl rfl (y_nilCheck rfl) ?_
                refine o_val rfl rfl rfl (y_field0 Try.runUnderlying143 rfl Try.sizeOf60 rfl rfl) ?_
                refine o_val rfl rfl rfl (y_load Try.isAgg60 rfl (cel_own 0 rfl rfl)) ?_
                refine o_val rfl rfl rfl (y_move (v := (.slice _ _ _)) rfl) ?_
                refine o_lit (vs := [(0, .slice _ _ _)]) rfl rfl (InL_k0 _ _ _) (fun b13 => ?_)
                refine o_append (sz := 1) (bytes := 24) (news := [(.slice _ _ _)]) 2 rfl Try.underlying60 Try.type29 rfl rfl rfl rfl rfl hog2 rfl rfl (Src.slice Try.underlying60 (cels_own 5 rfl rfl) rfl (by simp [Value.oneCell']) (by simp)) (by omega) (fun A14 c15 E16 ho17 hn18 => ?_)
                have ho19 : OS A14 (u.gs.length + 1) c15 29 1 ((u.gs ++ [(fs.getD ((u.i : Nat) : Int).toNat default)]).flatMap encB) E16 := (os_eq ho17 (by rw [List.flatMap_append]; rfl))
                clear ho17
                refine o_val rfl rfl rfl (y_nilCheck rfl) ?_
                refine o_val rfl rfl rfl (y_field0 Try.runUnderlying143 rfl Try.sizeOf60 rfl rfl) ?_
                refine o_store (v := (.slice _ _ _)) 0 rfl Try.sizeOf60 rfl rfl rfl rfl ?_
                refine o_nil ?_
                refine s_norm [[(_, .cells [(.int _ _), (.slice _ _ _), (.int _ _), (.slice _ _ _)].toArray 143 (0, 0))], _, _, _, _, [(_, .cells [(.slice _ _ _)].toArray 29 (0, 0))]] rfl ?_
                refine s_region ?_
                refine o_val rfl rfl rfl (y_move (v := (.pointer _)) rfl) ?_
                refine o_val rfl rfl rfl (y_nilCheck rfl) ?_
                refine o_val rfl rfl rfl (y_field0 Try.runUnderlying143 rfl Try.sizeOf3 rfl rfl) ?_
                refine o_val rfl rfl rfl (y_load Try.isAgg3 rfl (cel_own 0 rfl rfl)) ?_
                refine o_val rfl rfl rfl (y_add rfl rfl (by simp only [inK]; omega)) ?_
                refine o_val rfl rfl rfl (y_nilCheck rfl) ?_
                refine o_val rfl rfl rfl (y_field0 Try.runUnderlying143 rfl Try.sizeOf3 rfl rfl) ?_
                refine o_store (v := (.int _ _)) 0 rfl Try.sizeOf3 rfl rfl rfl rfl ?_
                refine o_nil ?_
                refine s_region ?_
                refine o_val rfl rfl rfl (y_add rfl rfl (by simp only [inK]; omega)) ?_
                refine o_val rfl rfl rfl (y_move (v := (.int _ _)) rfl) ?_
                refine o_nil ?_
                have hrc := recv_yes (ms := (fs.map (·.bs))) hyes
                exact ⟨IL.mk (u.i + 1) A14 c15 (u.gs ++ [(fs.getD ((u.i : Nat) : Int).toNat default)]) E16, (by first | omega | (dsimp only; omega)), ⟨by dsimp only; omega, (by dsimp only; rw [List.length_append]; exact ho19), (by dsimp only; rw [List.map_append, hmap, hrc, map_getD (by omega)]; rfl), fun f hf => (List.mem_append.1 hf).elim (hmem f) (fun hf => .inr (List.mem_singleton.1 hf ▸ getD_memF (by omega)))⟩, ⟨rfl, rfl, rfl, rfl, (congrArg (Value.int .i64) (by dsimp only; omega)), trivial⟩, (by dsimp only; rw [List.length_append, hrc]; exact sub_picks [0, 0, 0, 0, 0] rfl)⟩
              · have hno := h12
                refine s_skip ?_
                refine s_region ?_
                refine o_val rfl rfl rfl (y_add rfl rfl (by simp only [inK]; omega)) ?_
                refine o_val rfl rfl rfl (y_move (v := (.int _ _)) rfl) ?_
                refine o_nil ?_
                have hrc := recv_no (ms := (fs.map (·.bs))) hno
                exact ⟨IL.mk (u.i + 1) u.A u.c u.gs u.E, (by first | omega | (dsimp only; omega)), ⟨by dsimp only; omega, hog2, (by dsimp only; rw [hmap, hrc]), hmem⟩, ⟨rfl, rfl, rfl, rfl, (congrArg (Value.int .i64) (by dsimp only; omega)), trivial⟩, (by dsimp only; rw [hrc]; exact sub_picks [0, 0, 0, 0, 0] rfl)⟩
            · refine s_exit ?_
              refine s_seq ?_
              refine s_region ?_
              refine o_val rfl rfl rfl (y_assign (v := (.int _ _)) rfl) ?_
              refine o_nil ?_
              refine s_ret ?_
              have hul : u.i = fs.length := by omega
              rw [hul, ← hms, ← hml2] at hmap
              have hfin : ∀ f ∈ ws.drop (max first (parse n bs).ack - first).toNat ++ u.gs, BlIn (MP ++ PG) f := fun f hf => (List.mem_append.1 hf).elim (fun hf => hall0 f (List.mem_append_left _ (List.mem_append_left _ (List.mem_of_mem_drop hf)))) (fun hf => (hmem f hf).elim (fun hf => hall0 f (List.mem_append_left _ (List.mem_append_right _ hf))) (fun hf => hall0 f (List.mem_append_right _ hf)))
              have he : (inErr n bs (first + wn)) = 0 := by unfold inErr; rw [if_neg (fun hh => hh hok), if_neg (by omega)]
              have hmx : max first (parse n bs).ack = (parse n bs).ack := by omega
              rw [hmx] at hfin ⊢
              exact ⟨_, _, res1 rfl rfl, .inr ⟨he, rfl, _, _, _, _, u.gs, _, _, hmap, how2, hog2, hfin, rfl⟩, (by rw [hul, ← hms, ← hml2]; exact sub_picks [0, 0, 0, 0] rfl)⟩
        · refine s_skip ?_
          refine s_seq ?_
          refine s_seq ?_
          refine s_region ?_
          refine o_val rfl rfl rfl (y_move (v := (.slice _ _ _)) rfl) ?_
          refine o_val rfl rfl rfl (y_len Try.runUnderlying60 rfl) ?_
          refine o_val rfl rfl rfl (y_move (v := (.int _ _)) rfl) ?_
          refine o_nil ?_
          refine s_block ?_
          refine s_sub_picks [2, 2, 2, 0, 0] rfl ?_
          refine s_loop (γ := IL) (fun u => [(0, .pointer (some ⟨b, 0, none⟩)), (6, .int .i64 (parse n bs).first), (57, .slice mA fs.length mc), (58, .int .i64 fs.length), (59, .int .i64 u.i)]) (fun u => [endg b first wA wn wc ((recv (parse n bs).first (fs.map (·.bs)) next (gs.map (·.bs)) u.i).1) u.A u.gs.length u.c, WG, u.E, (MP ++ PG), ME]) (fun u => u.i ≤ fs.length ∧ OS u.A u.gs.length u.c 29 1 ((u.gs).flatMap encB) u.E ∧ u.gs.map (·.bs) = (recv (parse n bs).first (fs.map (·.bs)) next (gs.map (·.bs)) u.i).2 ∧ (∀ f ∈ u.gs, f ∈ gs ∨ f ∈ fs)) (fun u => fs.length - u.i) (IL.mk 0 gA gc gs GG) ?_ ⟨rfl, rfl, rfl, rfl, rfl, trivial⟩ (by dsimp only; rw [hgl]; exact sub_front ⟨_, rfl⟩) ?_
          · exact ⟨Nat.zero_le _, (by dsimp only; rw [hgl]; exact hog), rfl, fun f hf => .inl hf⟩
          · intro u _f hJ
            obtain ⟨hi, hog2, hmap, hmem⟩ := hJ
            have hrb := recv_bd (parse n bs).first (fs.map (·.bs)) next (gs.map (·.bs)) u.i
            have hml := congrArg List.length hmap
            rw [List.length_map] at hml hrb
            refine s_seq ?_
            refine s_region ?_
            refine o_val rfl rfl rfl (y_lss rfl rfl) ?_
            refine o_nil ?_
            refine s_seq ?_
            refine s_if rfl (fun h20 => ?_) (fun h21 => ?_)
            · refine s_skip ?_
              refine s_seq ?_
              refine s_block ?_
              refine s_seq ?_
              refine s_region ?_
              refine o_val rfl rfl rfl (y_move (v := (.int _ _)) rfl) ?_
              refine o_val rfl rfl rfl (y_index1 Try.runUnderlying60 Try.sizeOf29 (hom.some_of (by omega)) rfl rfl (by omega)) ?_
              refine o_val rfl rfl rfl (y_load Try.isAgg29 rfl (cel_B (hom.cels (j := 4) rfl) (by omega))) ?_
              refine o_val rfl rfl rfl (y_assign (v := (.int _ _)) rfl) ?_
              refine o_val rfl rfl rfl (y_assign (v := (.slice _ _ _)) rfl) ?_
              refine o_nil ?_
              refine s_seq ?_
              refine s_region ?_
              refine o_val rfl rfl rfl (y_move (v := (.int _ _)) rfl) ?_
              refine o_val rfl rfl rfl (y_move (v := (.int _ _)) rfl) ?_
              refine o_val rfl rfl rfl (y_add rfl rfl (by simp only [inK]; omega)) ?_
              refine o_val rfl rfl rfl (y_move (v := (.pointer _)) rfl) ?_
              refine o_val rfl rfl rfl (y_nilCheck rfl) ?_
              refine o_val rfl rfl rfl (y_field0 Try.runUnderlying143 rfl Try.sizeOf3 rfl rfl) ?_
              refine o_val rfl rfl rfl (y_load Try.isAgg3 rfl (cel_own 0 rfl rfl)) ?_
              refine o_val rfl rfl rfl (y_eql rfl rfl) ?_
              refine o_nil ?_
              refine s_if rfl (fun h22 => ?_) (fun h23 => ?_)
              · have hyes := h22
                refine s_seq ?_
                refine s_region ?_
                refine o_val rfl rfl rfl (y_move (v := (.pointer _)) rfl) ?_
                refine o_val rfl rfl rfl (y_move (v := (.pointer _)) rfl) ?_
                refine o_val rfl rfl rfl (y_nilCheck rfl) ?_
                refine o_val rfl rfl rfl (y_field0 Try.runUnderlying143 rfl Try.sizeOf60 rfl rfl) ?_
                refine o_val rfl rfl rfl (y_load Try.isAgg60 rfl (cel_own 0 rfl rfl)) ?_
                refine o_val rfl rfl rfl (y_move (v := (.slice _ _ _)) rfl) ?_
                refine o_lit (vs := [(0, .slice _ _ _)]) rfl rfl (InL_k0 _ _ _) (fun b24 => ?_)
                refine o_append (sz := 1) (bytes := 24) (news := [(.slice _ _ _)]) 2 rfl Try.underlying60 Try.type29 rfl rfl rfl rfl rfl hog2 rfl rfl (Src.slice Try.underlying60 (cels_own 5 rfl rfl) rfl (by simp [Value.oneCell']) (by simp)) (by omega) (fun A25 c26 E27 ho28 hn29 => ?_)
                have ho30 : OS A25 (u.gs.length + 1) c26 29 1 ((u.gs ++ [(fs.getD ((u.i : Nat) : Int).toNat default)]).flatMap encB) E27 := (os_eq ho28 (by rw [List.flatMap_append]; rfl))
                clear ho28
                refine o_val rfl rfl rfl (y_nilCheck rfl) ?_
                refine o_val rfl rfl rfl (y_field0 Try.runUnderlying143 rfl Try.sizeOf60 rfl rfl) ?_
                refine o_store (v := (.slice _ _ _)) 0 rfl Try.sizeOf60 rfl rfl rfl rfl ?_
                refine o_nil ?_
                refine s_norm [[(_, .cells [(.int _ _), (.slice _ _ _), (.int _ _), (.slice _ _ _)].toArray 143 (0, 0))], _, _, _, _, [(_, .cells [(.slice _ _ _)].toArray 29 (0, 0))]] rfl ?_
                refine s_region ?_
                refine o_val rfl rfl rfl (y_move (v := (.pointer _)) rfl) ?_
                refine o_val rfl rfl rfl (y_nilCheck rfl) ?_
                refine o_val rfl rfl rfl (y_field0 Try.runUnderlying143 rfl Try.sizeOf3 rfl rfl) ?_
                refine o_val rfl rfl rfl (y_load Try.isAgg3 rfl (cel_own 0 rfl rfl)) ?_
                refine o_val rfl rfl rfl (y_add rfl rfl (by simp only [inK]; omega)) ?_
                refine o_val rfl rfl rfl (y_nilCheck rfl) ?_
                refine o_val rfl rfl rfl (y_field0 Try.runUnderlying143 rfl Try.sizeOf3 rfl rfl) ?_
                refine o_store (v := (.int _ _)) 0 rfl Try.sizeOf3 rfl rfl rfl rfl ?_
                refine o_nil ?_
                refine s_region ?_
                refine o_val rfl rfl rfl (y_add rfl rfl (by simp only [inK]; omega)) ?_
                refine o_val rfl rfl rfl (y_move (v := (.int _ _)) rfl) ?_
                refine o_nil ?_
                have hrc := recv_yes (ms := (fs.map (·.bs))) hyes
                exact ⟨IL.mk (u.i + 1) A25 c26 (u.gs ++ [(fs.getD ((u.i : Nat) : Int).toNat default)]) E27, (by first | omega | (dsimp only; omega)), ⟨by dsimp only; omega, (by dsimp only; rw [List.length_append]; exact ho30), (by dsimp only; rw [List.map_append, hmap, hrc, map_getD (by omega)]; rfl), fun f hf => (List.mem_append.1 hf).elim (hmem f) (fun hf => .inr (List.mem_singleton.1 hf ▸ getD_memF (by omega)))⟩, ⟨rfl, rfl, rfl, rfl, (congrArg (Value.int .i64) (by dsimp only; omega)), trivial⟩, (by dsimp only; rw [List.length_append, hrc]; exact sub_picks [0, 0, 0, 0, 0] rfl)⟩
              · have hno := h23
                refine s_skip ?_
                refine s_region ?_
                refine o_val rfl rfl rfl (y_add rfl rfl (by simp only [inK]; omega)) ?_
                refine o_val rfl rfl rfl (y_move (v := (.int _ _)) rfl) ?_
                refine o_nil ?_
                have hrc := recv_no (ms := (fs.map (·.bs))) hno
                exact ⟨IL.mk (u.i + 1) u.A u.c u.gs u.E, (by first | omega | (dsimp only; omega)), ⟨by dsimp only; omega, hog2, (by dsimp only; rw [hmap, hrc]), hmem⟩, ⟨rfl, rfl, rfl, rfl, (congrArg (Value.int .i64) (by dsimp only; omega)), trivial⟩, (by dsimp only; rw [hrc]; exact sub_picks [0, 0, 0, 0, 0] rfl)⟩
            · refine s_exit ?_
              refine s_seq ?_
              refine s_region ?_
              refine o_val rfl rfl rfl (y_assign (v := (.int _ _)) rfl) ?_
              refine o_nil ?_
              refine s_ret ?_
              have hul : u.i = fs.length := by omega
              rw [hul, ← hms, ← hml2] at hmap
              have hfin : ∀ f ∈ ws.drop (max first (parse n bs).ack - first).toNat ++ u.gs, BlIn (MP ++ PG) f := fun f hf => (List.mem_append.1 hf).elim (fun hf => hall0 f (List.mem_append_left _ (List.mem_append_left _ (List.mem_of_mem_drop hf)))) (fun hf => (hmem f hf).elim (fun hf => hall0 f (List.mem_append_left _ (List.mem_append_right _ hf))) (fun hf => hall0 f (List.mem_append_right _ hf)))
              have he : (inErr n bs (first + wn)) = 0 := by unfold inErr; rw [if_neg (fun hh => hh hok), if_neg (by omega)]
              have hmx : max first (parse n bs).ack = first := by omega
              rw [hmx] at hfin ⊢
              rw [show (first - first).toNat = 0 by omega, List.drop_zero] at hfin ⊢
              rw [Nat.sub_zero]
              exact ⟨_, _, res1 rfl rfl, .inr ⟨he, rfl, _, _, _, _, u.gs, _, _, hmap, how, hog2, hfin, rfl⟩, (by rw [hul, ← hms, ← hml2]; exact sub_picks [0, 0, 0, 0] rfl)⟩

end Go.Proofs.Ytdgmocibjjkghaa.K
