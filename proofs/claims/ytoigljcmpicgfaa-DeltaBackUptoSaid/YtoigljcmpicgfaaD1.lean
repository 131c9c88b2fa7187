/- Walks: sums of lists, numbers written in groups of bits. No condition beyond what each statement names. -/
import Derived.Test.YtoigljcmpicgfaaProg
import Derived.Test.YtoigljcmpicgfaaB5
import Derived.Test.YtoigljcmpicgfaaI1
set_option linter.unusedVariables false
set_option linter.unusedSimpArgs false
set_option maxRecDepth 100000
namespace Go.Proofs.Ytoigljcmpicgfaa.K
open Go.RowKit

theorem bXor_in (k : IntKind) (a b : Int) : inK k (bXor k a b) := by unfold bXor; exact inK_wrap _ _
def shrU (a n : Int) : Int := a.fdiv (2 ^ (min n.toNat IntKind.u64.bits))
/-- What Mix answers. -/
def mixF (a : Int) : Int :=
  let b := IntKind.u64.wrap (bXor .u64 a (shrU a 31) * 7640891576956012809)
  let c := IntKind.u64.wrap (bXor .u64 b (shrU b 27) * 13503953896175478587)
  bXor .u64 c (shrU c 30)
def joinF (h v : Int) : Int := mixF (IntKind.u64.wrap (IntKind.u64.wrap (mixF (IntKind.u64.wrap (h + 5840696475078001361)) * 11170449401992604703) + v))
/-- The sum of a list of words. -/
def sumW (ws : List Int) : Int := ws.foldl joinF (joinF 5840696475078001361 ws.length)
def sumI (xs : List Int) : Int := sumW (xs.map IntKind.u64.wrap)
theorem joinF_in (h v : Int) : inK .u64 (joinF h v) := bXor_in _ _ _
theorem foldl_in : ∀ (ws : List Int) (h : Int), inK .u64 h → inK .u64 (ws.foldl joinF h)
  | [], _, hh => hh
  | w :: ws, h, _ => foldl_in ws (joinF h w) (joinF_in h w)
theorem sumI_bd (xs : List Int) : 0 ≤ sumI xs ∧ sumI xs ≤ 18446744073709551615 := by
  have := foldl_in (xs.map IntKind.u64.wrap) _ (joinF_in 5840696475078001361 (xs.map IntKind.u64.wrap).length)
  exact this
theorem foldl_step {ws : List Int} {k : Nat} (h0 : Int) (hk : k < ws.length) : joinF ((ws.take k).foldl joinF h0) (ws.getD k 0) = (ws.take (k + 1)).foldl joinF h0 := by
  rw [List.take_add_one, List.foldl_append, List.getD_eq_getElem?_getD, List.getElem?_eq_getElem hk]; rfl

theorem Mix_c {V : Mem} (a : Int) : CallS Try.prog 98 [.int .u64 a].toArray V [] (fun r L' => r = .int .u64 (mixF a) ∧ L' = []) := by
  refine callS Try.func98 rfl rfl (fun w0 => ?_)
  refine s_seq ?_
  refine s_region ?_
  refine o_val rfl rfl rfl (y_assign (v := (.int _ _)) rfl) ?_
  refine o_nil ?_
  refine s_seq ?_
  refine s_region ?_
  refine o_val rfl rfl rfl (y_move (v := (.int _ _)) rfl) ?_
  refine o_val rfl rfl rfl (y_move (v := (.int _ _)) rfl) ?_
  refine o_val rfl rfl rfl (y_shr rfl rfl (by omega)) ?_
  refine o_val rfl rfl rfl (y_xor rfl rfl) ?_
  refine o_val rfl rfl rfl (y_mul' rfl rfl) ?_
  refine o_val rfl rfl rfl (y_assign (v := (.int _ _)) rfl) ?_
  refine o_nil ?_
  refine s_seq ?_
  refine s_region ?_
  refine o_val rfl rfl rfl (y_move (v := (.int _ _)) rfl) ?_
  refine o_val rfl rfl rfl (y_move (v := (.int _ _)) rfl) ?_
  refine o_val rfl rfl rfl (y_shr rfl rfl (by omega)) ?_
  refine o_val rfl rfl rfl (y_xor rfl rfl) ?_
  refine o_val rfl rfl rfl (y_mul' rfl rfl) ?_
  refine o_val rfl rfl rfl (y_assign (v := (.int _ _)) rfl) ?_
  refine o_nil ?_
  refine s_seq ?_
  refine s_region ?_
  refine o_val rfl rfl rfl (y_move (v := (.int _ _)) rfl) ?_
  refine o_val rfl rfl rfl (y_move (v := (.int _ _)) rfl) ?_
  refine o_val rfl rfl rfl (y_shr rfl rfl (by omega)) ?_
  refine o_val rfl rfl rfl (y_xor rfl rfl) ?_
  refine o_val rfl rfl rfl (y_assign (v := (.int _ _)) rfl) ?_
  refine o_nil ?_
  refine s_ret ?_
  exact ⟨_, _, res1 rfl rfl, ⟨rfl, rfl⟩, sub_front ⟨_, rfl⟩⟩

theorem Join_c {V : Mem} (h v : Int) : CallS Try.prog 79 [.int .u64 h, .int .u64 v].toArray V [] (fun r L' => r = .int .u64 (joinF h v) ∧ L' = []) := by
  refine callS Try.func79 rfl rfl (fun w0 => ?_)
  refine s_seq ?_
  refine s_region ?_
  refine o_val rfl rfl rfl (y_assign (v := (.int _ _)) rfl) ?_
  refine o_nil ?_
  refine s_seq ?_
  refine s_region ?_
  refine o_val rfl rfl rfl (y_move (v := (.int _ _)) rfl) ?_
  refine o_val rfl rfl rfl (y_add' rfl rfl) ?_
  refine o_fn 0 (d := 7) rfl Try.call98 (Mix_c _) rfl ?_
  rintro _ _ ⟨rfl, rfl⟩
  refine o_val rfl rfl rfl (y_mul' rfl rfl) ?_
  refine o_val rfl rfl rfl (y_move (v := (.int _ _)) rfl) ?_
  refine o_val rfl rfl rfl (y_add' rfl rfl) ?_
  refine o_fn 0 (d := 11) rfl Try.call98 (Mix_c _) rfl ?_
  rintro _ _ ⟨rfl, rfl⟩
  refine o_val rfl rfl rfl (y_assign (v := (.int _ _)) rfl) ?_
  refine o_nil ?_
  refine s_ret ?_
  exact ⟨_, _, res1 rfl rfl, ⟨rfl, rfl⟩, sub_front ⟨_, rfl⟩⟩

theorem Words_c {V : Mem} (A : Option Addr) (n c : Nat) (ws : List Int) (h : Cels V [] A (ws.map (.int .u64))) (hn : ws.length = n) (hb : n ≤ 140737488355328) : CallS Try.prog 51 [.slice A n c].toArray V [] (fun r L' => r = .int .u64 (sumW ws) ∧ L' = []) := by
  refine callS Try.func51 rfl rfl (fun w0 => ?_)
  refine s_seq ?_
  refine s_region ?_
  refine o_val rfl rfl rfl (y_assign (v := (.int _ _)) rfl) ?_
  refine o_nil ?_
  refine s_seq ?_
  refine s_region ?_
  refine o_val rfl rfl rfl (y_move (v := (.slice _ _ _)) rfl) ?_
  refine o_val rfl rfl rfl (y_len Try.runUnderlying38 rfl) ?_
  refine o_val rfl rfl rfl (y_conv Try.runUnderlying3 Try.runUnderlying53 rfl (by simp only [inK]; omega)) ?_
  refine o_fn 0 (d := 9) rfl Try.call79 (Join_c _ _) rfl ?_
  rintro _ _ ⟨rfl, rfl⟩
  refine o_val rfl rfl rfl (y_assign (v := (.int _ _)) rfl) ?_
  refine o_nil ?_
  refine s_seq ?_
  refine s_seq ?_
  refine s_region ?_
  refine o_val rfl rfl rfl (y_move (v := (.slice _ _ _)) rfl) ?_
  refine o_val rfl rfl rfl (y_len Try.runUnderlying38 rfl) ?_
  refine o_val rfl rfl rfl (y_move (v := (.int _ _)) rfl) ?_
  refine o_nil ?_
  refine s_block ?_
  refine s_loop (γ := Nat) (fun g => [(3, .int .u64 ((ws.take g).foldl joinF (joinF 5840696475078001361 n))), (10, .slice A n c), (11, .int .i64 n), (12, .int .i64 g)]) (fun g => []) (fun g => g ≤ n) (fun g => n - g) (0) ?_ ⟨rfl, rfl, rfl, rfl, trivial⟩ (sub_front ⟨_, rfl⟩) ?_
  · exact Nat.zero_le _
  · intro g _f hI
    refine s_seq ?_
    refine s_region ?_
    refine o_val rfl rfl rfl (y_lss rfl rfl) ?_
    refine o_nil ?_
    refine s_seq ?_
    refine s_if rfl (fun h1 => ?_) (fun h2 => ?_)
    · refine s_skip ?_
      refine s_seq ?_
      refine s_block ?_
      refine s_seq ?_
      refine s_region ?_
      refine o_val rfl rfl rfl (y_index1 Try.runUnderlying38 Try.sizeOf53 (some_int (i := 0) h (by omega)) rfl rfl (by omega)) ?_
      refine o_val rfl rfl rfl (y_load Try.isAgg53 rfl (cel_int h.here (by omega))) ?_
      refine o_val rfl rfl rfl (y_assign (v := (.int _ _)) rfl) ?_
      refine o_nil ?_
      refine s_region ?_
      refine o_val rfl rfl rfl (y_move (v := (.int _ _)) rfl) ?_
      refine o_val rfl rfl rfl (y_move (v := (.int _ _)) rfl) ?_
      refine o_fn 0 (d := 18) rfl Try.call79 (Join_c _ _) rfl ?_
      rintro _ _ ⟨rfl, rfl⟩
      refine o_val rfl rfl rfl (y_assign (v := (.int _ _)) rfl) ?_
      refine o_nil ?_
      refine s_region ?_
      refine o_val rfl rfl rfl (y_add rfl rfl (by simp only [inK]; omega)) ?_
      refine o_val rfl rfl rfl (y_move (v := (.int _ _)) rfl) ?_
      refine o_nil ?_
      exact ⟨g + 1, (by first | omega | (dsimp only; omega)), (show g + 1 ≤ n by omega), ⟨(congrArg (Value.int .u64) (foldl_step _ (by omega))), rfl, rfl, (congrArg (Value.int _) (by omega)), trivial⟩, sub_front ⟨_, rfl⟩⟩
    · refine s_exit ?_
      refine s_seq ?_
      refine s_region ?_
      refine o_val rfl rfl rfl (y_move (v := (.int _ _)) rfl) ?_
      refine o_val rfl rfl rfl (y_assign (v := (.int _ _)) rfl) ?_
      refine o_nil ?_
      refine s_ret ?_
      have hin : g = n := by omega
      exact ⟨_, _, res1 rfl rfl, ⟨congrArg (Value.int .u64) (by unfold sumW; rw [hin, ← hn, List.take_length]), rfl⟩, sub_front ⟨_, rfl⟩⟩

theorem map_set_step {xs : List Int} {k : Nat} (hk : k < xs.length) : ((xs.take k).map IntKind.u64.wrap ++ List.replicate (xs.length - k) (0 : Int)).set k (IntKind.u64.wrap (xs.getD k 0)) = (xs.take (k + 1)).map IntKind.u64.wrap ++ List.replicate (xs.length - (k + 1)) (0 : Int) := by
  have e : xs.length - k = xs.length - (k + 1) + 1 := by omega
  rw [e, List.replicate_succ, List.set_append_right _ _ (by simp; omega), List.take_add_one, List.map_append, List.getD_eq_getElem?_getD, List.getElem?_eq_getElem hk]
  simp [Nat.min_eq_left (Nat.le_of_lt hk)]

theorem SumInts_c {V : Mem} (A : Option Addr) (n c : Nat) (xs : List Int) (h : Cels V [] A (xs.map (.int .i64))) (hn : xs.length = n) (hb : n ≤ 17592186044416) : CallS Try.prog 19 [.slice A n c].toArray V [] (fun r L' => r = .int .u64 (sumI xs) ∧ L' = []) := by
  refine callS Try.func19 rfl rfl (fun w0 => ?_)
  refine s_seq ?_
  refine s_region ?_
  refine o_val rfl rfl rfl (y_assign (v := (.int _ _)) rfl) ?_
  refine o_nil ?_
  refine s_seq ?_
  refine s_region ?_
  refine o_val rfl rfl rfl (y_move (v := (.slice _ _ _)) rfl) ?_
  refine o_val rfl rfl rfl (y_len Try.runUnderlying22 rfl) ?_
  refine o_make (sz := 1) (bytes := 8) (n := n) rfl Try.underlying38 Try.type53 rfl rfl rfl rfl rfl (by omega) (fun A1 E2 ho3 hs4 => ?_)
  have ho5 : OS A1 n n 53 1 ((List.replicate n (0 : Int)).map (.int .u64)) E2 := os_made_int ho3
  clear ho3
  refine o_val rfl rfl rfl (y_assign (v := (.slice _ _ _)) rfl) ?_
  refine o_nil ?_
  refine s_seq ?_
  refine s_seq ?_
  refine s_region ?_
  refine o_val rfl rfl rfl (y_move (v := (.slice _ _ _)) rfl) ?_
  refine o_val rfl rfl rfl (y_len Try.runUnderlying22 rfl) ?_
  refine o_val rfl rfl rfl (y_move (v := (.int _ _)) rfl) ?_
  refine o_nil ?_
  refine s_block ?_
  refine s_loop (γ := Nat × Grp) (fun g => [(3, .slice A1 n n), (9, .slice A n c), (10, .int .i64 n), (11, .int .i64 g.1)]) (fun g => [g.2]) (fun g => g.1 ≤ n ∧ OS A1 n n 53 1 (((xs.take g.1).map IntKind.u64.wrap ++ List.replicate (xs.length - g.1) (0 : Int)).map (.int .u64)) g.2) (fun g => n - g.1) ((0, E2)) ?_ ⟨rfl, rfl, rfl, rfl, trivial⟩ (sub_front ⟨_, rfl⟩) ?_
  · exact ⟨Nat.zero_le _, by simpa [hn] using ho5⟩
  · intro g _f hI
    obtain ⟨hg, ho⟩ := hI
    refine s_seq ?_
    refine s_region ?_
    refine o_val rfl rfl rfl (y_lss rfl rfl) ?_
    refine o_nil ?_
    refine s_seq ?_
    refine s_if rfl (fun h6 => ?_) (fun h7 => ?_)
    · refine s_skip ?_
      refine s_seq ?_
      refine s_block ?_
      refine s_seq ?_
      refine s_region ?_
      refine o_val rfl rfl rfl (y_move (v := (.int _ _)) rfl) ?_
      refine o_val rfl rfl rfl (y_index1 Try.runUnderlying22 Try.sizeOf3 (some_int (i := 0) h (by omega)) rfl rfl (by omega)) ?_
      refine o_val rfl rfl rfl (y_load Try.isAgg3 rfl (cel_int h.here (by omega))) ?_
      refine o_val rfl rfl rfl (y_assign (v := (.int _ _)) rfl) ?_
      refine o_val rfl rfl rfl (y_assign (v := (.int _ _)) rfl) ?_
      refine o_nil ?_
      refine s_region ?_
      refine o_val rfl rfl rfl (y_move (v := (.slice _ _ _)) rfl) ?_
      refine o_val rfl rfl rfl (y_move (v := (.int _ _)) rfl) ?_
      refine o_val rfl rfl rfl (y_move (v := (.int _ _)) rfl) ?_
      refine o_val rfl rfl rfl (y_conv' Try.runUnderlying3 Try.runUnderlying53 rfl) ?_
      refine o_val rfl rfl rfl (y_index1 Try.runUnderlying38 Try.sizeOf53 (ho.some_of (by omega)) rfl rfl (by omega)) ?_
      refine o_store_os (vs := [(.int _ _)]) 0 rfl ho Try.sizeOf53 rfl rfl rfl (by simp [Value.oneCell']) (by simp) (by simp; omega) (fun E8 ho9 => ?_)
      have ho10 := os_lay_int ho9 (by simp; omega)
      clear ho9
      refine o_nil ?_
      refine s_region ?_
      refine o_val rfl rfl rfl (y_add rfl rfl (by simp only [inK]; omega)) ?_
      refine o_val rfl rfl rfl (y_move (v := (.int _ _)) rfl) ?_
      refine o_nil ?_
      exact ⟨(g.1 + 1, E8), (by first | omega | (dsimp only; omega)), ⟨by dsimp only; omega, by have hs := ho10; rw [show ((g.1 : Nat) : Int).toNat = g.1 from rfl, map_set_step (by omega)] at hs; exact hs⟩, ⟨rfl, rfl, rfl, (congrArg (Value.int _) (by dsimp only; omega)), trivial⟩, sub_front ⟨_, rfl⟩⟩
    · refine s_exit ?_
      refine s_seq ?_
      refine s_region ?_
      have hin : g.1 = n := by omega
      rw [hin, ← hn, List.take_length, Nat.sub_self, List.replicate_zero, List.append_nil] at ho
      refine o_val rfl rfl rfl (y_move (v := (.slice _ _ _)) rfl) ?_
      refine o_fn 0 (d := 23) rfl Try.call51 (Words_c _ _ _ (xs.map IntKind.u64.wrap) (ho.cels (j := 0) rfl).down (by simp [hn]) (by omega)) rfl ?_
      rintro _ _ ⟨rfl, rfl⟩
      refine o_val rfl rfl rfl (y_assign (v := (.int _ _)) rfl) ?_
      refine o_nil ?_
      refine s_ret ?_
      exact ⟨_, _, res1 rfl rfl, ⟨rfl, rfl⟩, sub_front ⟨_, rfl⟩⟩

theorem groups_c {V : Mem} (v : Nat) (hv : v < 18446744073709551616) : CallS Try.prog 93 [.int .u64 v].toArray V [] (fun r L' => r = .int .i64 (grp v : Nat) ∧ L' = []) := by
  refine callS Try.func93 rfl rfl (fun w0 => ?_)
  refine s_seq ?_
  refine s_region ?_
  refine o_val rfl rfl rfl (y_assign (v := (.int _ _)) rfl) ?_
  refine o_nil ?_
  refine s_seq ?_
  refine s_region ?_
  refine o_val rfl rfl rfl (y_assign (v := (.int _ _)) rfl) ?_
  refine o_nil ?_
  refine s_seq ?_
  refine s_seq ?_
  refine s_region ?_
  refine o_val rfl rfl rfl (y_move (v := (.int _ _)) rfl) ?_
  refine o_val rfl rfl rfl ((y_shr rfl rfl (by omega)).int (shr4 v)) ?_
  refine o_val rfl rfl rfl (y_assign (v := (.int _ _)) rfl) ?_
  refine o_nil ?_
  refine s_block ?_
  refine s_loop (γ := Nat) (fun g => [(0, .int .u64 ((v / 16 ^ g : Nat) : Int)), (3, .int .i64 g)]) (fun g => []) (fun g => 1 ≤ g ∧ g ≤ 16 ∧ ∀ j, 1 ≤ j → j < g → v / 16 ^ j ≠ 0) (fun g => 17 - g) (1) ?_ ⟨(by rw [Nat.pow_one]; rfl), rfl, trivial⟩ (sub_front ⟨_, rfl⟩) ?_
  · exact ⟨Nat.le_refl _, by omega, fun j h1 h2 => by omega⟩
  · intro g _f hI
    obtain ⟨h1, h2, h3⟩ := hI
    refine s_seq ?_
    refine s_seq ?_
    refine s_region ?_
    refine o_val rfl rfl rfl (y_move (v := (.int _ _)) rfl) ?_
    refine o_val rfl rfl rfl (y_gtr rfl rfl) ?_
    refine o_nil ?_
    refine s_if rfl (fun h1 => ?_) (fun h2 => ?_)
    · have hpos := h1
      have hg16 : g < 16 := Nat.lt_of_not_le (fun hh => by rw [div16_zero hv hh] at hpos; omega)
      refine s_skip ?_
      refine s_seq ?_
      refine s_block ?_
      refine s_region ?_
      refine o_val rfl rfl rfl (y_move (v := (.int _ _)) rfl) ?_
      refine o_val rfl rfl rfl (y_add rfl rfl (by simp only [inK]; omega)) ?_
      refine o_val rfl rfl rfl (y_assign (v := (.int _ _)) rfl) ?_
      refine o_nil ?_
      refine s_region ?_
      refine o_val rfl rfl rfl (y_move (v := (.int _ _)) rfl) ?_
      refine o_val rfl rfl rfl ((y_shr rfl rfl (by omega)).int (shr4 (v / 16 ^ g))) ?_
      refine o_val rfl rfl rfl (y_assign (v := (.int _ _)) rfl) ?_
      refine o_nil ?_
      exact ⟨g + 1, (by first | omega | (dsimp only; omega)), ⟨by omega, by omega, fun j hj1 hj2 => if e : j = g then by rw [e]; omega else h3 j hj1 (by omega)⟩, ⟨(congrArg (Value.int .u64) (by rw [Nat.pow_succ, ← Nat.div_div_eq_div_mul])), (congrArg (Value.int _) (by omega)), trivial⟩, sub_front ⟨_, rfl⟩⟩
    · have hzero : v / 16 ^ g = 0 := Nat.eq_zero_of_not_pos (fun hh => h2 (Int.natCast_pos.2 hh))
      refine s_exit ?_
      refine s_seq ?_
      refine s_region ?_
      refine o_val rfl rfl rfl (y_move (v := (.int _ _)) rfl) ?_
      refine o_val rfl rfl rfl (y_assign (v := (.int _ _)) rfl) ?_
      refine o_nil ?_
      refine s_ret ?_
      exact ⟨_, _, res1 rfl rfl, ⟨congrArg (fun k : Nat => Value.int .i64 k) (isGrp_unique ⟨h1, hzero, h3⟩ (grp_is v)), rfl⟩, sub_front ⟨_, rfl⟩⟩

end Go.Proofs.Ytoigljcmpicgfaa.K
