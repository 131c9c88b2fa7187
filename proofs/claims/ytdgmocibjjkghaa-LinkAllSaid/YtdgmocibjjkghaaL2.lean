/- Walks: sums of bytes, numbers as bytes. No condition beyond what each statement names. -/
import Derived.Test.YtdgmocibjjkghaaProg
import Derived.Test.YtdgmocibjjkghaaK14
import Derived.Test.YtdgmocibjjkghaaB9
import Derived.Test.YtdgmocibjjkghaaN1
import Derived.Test.YtdgmocibjjkghaaN3
import Derived.Test.YtdgmocibjjkghaaN4
import Derived.Test.YtdgmocibjjkghaaL1
set_option linter.unusedVariables false
set_option linter.unusedSimpArgs false
set_option maxRecDepth 100000
namespace Go.Proofs.Ytdgmocibjjkghaa.K
open Go.RowKit

theorem bXor_in (k : IntKind) (a b : Int) : inK k (bXor k a b) := by unfold bXor; exact inK_wrap _ _
theorem bOr_in (k : IntKind) (a b : Int) : inK k (bOr k a b) := by unfold bOr; exact inK_wrap _ _
def shrU (a n : Int) : Int := a.fdiv (2 ^ (min n.toNat IntKind.u64.bits))
/-- What Mix answers. -/
def mixF (a : Int) : Int :=
  let b := IntKind.u64.wrap (bXor .u64 a (shrU a 31) * 7640891576956012809)
  let c := IntKind.u64.wrap (bXor .u64 b (shrU b 27) * 13503953896175478587)
  bXor .u64 c (shrU c 30)
def joinF (h v : Int) : Int := mixF (IntKind.u64.wrap (IntKind.u64.wrap (mixF (IntKind.u64.wrap (h + 5840696475078001361)) * 11170449401992604703) + v))
theorem joinF_in (h v : Int) : inK .u64 (joinF h v) := bXor_in _ _ _
/-- Bytes that can be read. -/
def BB (V : Mem) (A : Option Addr) (n c : Nat) (bs : List Int) : Prop := bs.length = n ∧ n ≤ c ∧ Cels V [] A (bs.map (.int .u8)) ∧ ∀ b ∈ bs, 0 ≤ b ∧ b ≤ 255
theorem BB.lift {V : Mem} {R : List Grp} {A : Option Addr} {n c : Nat} {bs : List Int} (h : BB V A n c bs) : BB (ext V R) A n c bs := ⟨h.1, h.2.1, h.2.2.1.here.down, h.2.2.2⟩
theorem BB.cut {V : Mem} {A : Option Addr} {n c : Nat} {bs : List Int} (h : BB V A n c bs) {l m : Nat} (hl : l ≤ m) (hm : m ≤ n) : BB V (cutA A c l 1) (m - l) (c - l) ((bs.drop l).take (m - l)) := by
  obtain ⟨h1, h2, h3, h4⟩ := h
  refine ⟨by rw [List.length_take, List.length_drop]; omega, by omega, ?_, fun b hb => h4 b (List.mem_of_mem_drop (List.mem_of_mem_take hb))⟩
  have := h3.cut c l 1 (m - l) (fun e => by omega)
  rwa [Nat.mul_one, ← List.map_drop, ← List.map_take] at this
theorem BB.from {V : Mem} {A : Option Addr} {n c : Nat} {bs : List Int} (h : BB V A n c bs) {l : Nat} (hl : l ≤ n) : BB V (cutA A c l 1) (n - l) (c - l) (bs.drop l) := by
  have := h.cut hl (Nat.le_refl n)
  rwa [List.take_of_length_le (by rw [List.length_drop, h.1]; omega)] at this
theorem BB.to {V : Mem} {A : Option Addr} {n c : Nat} {bs : List Int} (h : BB V A n c bs) {m : Nat} (hm : m ≤ n) : BB V A m c (bs.take m) := by
  obtain ⟨h1, h2, h3, h4⟩ := h
  refine ⟨by rw [List.length_take]; omega, by omega, ?_, fun b hb => h4 b (List.mem_of_mem_take hb)⟩
  have := h3.cut 1 0 1 m (fun e => by omega)
  rw [List.map_take]
  unfold cutA at this
  rw [if_neg (by omega)] at this
  simpa [idx_zero] using this
def orW (bs : List Int) : Nat → Int
  | 0 => 0
  | k + 1 => bOr .u64 (orW bs k) (IntKind.u64.wrap (IntKind.u64.wrap (bs.getD ((k : Nat) : Int).toNat 0) * 2 ^ (min (8 * ((k : Nat) : Int)).toNat IntKind.u64.bits)))
def sumGo : Nat → Int → List Int → Int
  | 0, d, _ => d
  | f + 1, d, bs => if bs.length = 0 then d else sumGo f (joinF d (orW bs (min (bs.length : Int) 8).toNat)) (bs.drop (min (bs.length : Int) 8).toNat)
theorem sumGo_more : ∀ (f d : Nat) (x : Int) (bs : List Int), bs.length ≤ f → sumGo (f + d) x bs = sumGo f x bs
  | 0, d, x, bs, h => by
    cases d with
    | zero => rfl
    | succ d => simp only [Nat.zero_add, sumGo]; rw [if_pos (by omega)]
  | f + 1, d, x, bs, h => by
    rw [Nat.add_right_comm]
    simp only [sumGo]
    split
    · rfl
    · exact sumGo_more f d _ _ (by rw [List.length_drop]; omega)
theorem sumGo_in : ∀ (f : Nat) (x : Int) (bs : List Int), inK .u64 x → inK .u64 (sumGo f x bs)
  | 0, _, _, h => h
  | f + 1, x, bs, h => by
    simp only [sumGo]
    split
    · exact h
    · exact sumGo_in f _ _ (joinF_in _ _)
/-- The sum of bytes. -/
def sumB (bs : List Int) : Int := sumGo bs.length (joinF 11170449401992604703 (bs.length : Int)) bs
theorem sumB_in (bs : List Int) : 0 ≤ sumB bs ∧ sumB bs ≤ 18446744073709551615 := sumGo_in _ _ _ (joinF_in _ _)
theorem sumGo_step {bs : List Int} {n : Nat} {x : Int} (hn : bs.length = n) (h0 : 0 < n) : sumGo n x bs = sumGo (n - (min (n : Int) 8).toNat) (joinF x (orW bs (min (n : Int) 8).toNat)) (bs.drop (min (n : Int) 8).toNat) := by
  subst hn
  obtain ⟨m, hm⟩ : ∃ m, bs.length = m + 1 := ⟨bs.length - 1, by omega⟩
  conv => lhs; rw [hm]
  simp only [sumGo]
  rw [if_neg (by omega)]
  have e : m = (bs.length - (min (bs.length : Int) 8).toNat) + (m - (bs.length - (min (bs.length : Int) 8).toNat)) := by omega
  rw [e, sumGo_more _ _ _ _ (by rw [List.length_drop]; omega)]
/-- The state of the loop over bytes. -/
structure SB where
  d : Int
  A : Option Addr
  n : Nat
  c : Nat
  bs : List Int

theorem Mix_c {V : Mem} (a : Int) : CallS Try.prog 142 [.int .u64 a].toArray V [] (fun r L' => r = .int .u64 (mixF a) ∧ L' = []) := by
  refine callS Try.func142 rfl rfl (fun w0 => ?_)
  refine s_seq ?_
  refine s_region ?_
  refine o_val rfl rfl rfl (y_assign (v := (.int _ _)) rfl) ?_
  refine o_nil ?_
  refine s_seq ?_
  refine s_region ?_
  refine o_val rfl rfl rfl (y_move (v := (.int _ _)) rfl) ?_
  refine o_val rfl rfl rfl (y_move (v := (.int _ _)) rfl) ?_
  refine o_val rfl rfl rfl (y_shr rfl rfl (by omega)) ?_
  refine o_val rfl rfl rfl (y_xor rfl rfl) ?_
  refine o_val rfl rfl rfl (y_mul' rfl rfl) ?_
  refine o_val rfl rfl rfl (y_assign (v := (.int _ _)) rfl) ?_
  refine o_nil ?_
  refine s_seq ?_
  refine s_region ?_
  refine o_val rfl rfl rfl (y_move (v := (.int _ _)) rfl) ?_
  refine o_val rfl rfl rfl (y_move (v := (.int _ _)) rfl) ?_
  refine o_val rfl rfl rfl (y_shr rfl rfl (by omega)) ?_
  refine o_val rfl rfl rfl (y_xor rfl rfl) ?_
  refine o_val rfl rfl rfl (y_mul' rfl rfl) ?_
  refine o_val rfl rfl rfl (y_assign (v := (.int _ _)) rfl) ?_
  refine o_nil ?_
  refine s_seq ?_
  refine s_region ?_
  refine o_val rfl rfl rfl (y_move (v := (.int _ _)) rfl) ?_
  refine o_val rfl rfl rfl (y_move (v := (.int _ _)) rfl) ?_
  refine o_val rfl rfl rfl (y_shr rfl rfl (by omega)) ?_
  refine o_val rfl rfl rfl (y_xor rfl rfl) ?_
  refine o_val rfl rfl rfl (y_assign (v := (.int _ _)) rfl) ?_
  refine o_nil ?_
  refine s_forget [(2, (.int _ _))] ⟨rfl, trivial⟩ (fun _f => ?_)
  refine s_ret ?_
  exact ⟨_, _, res1 rfl rfl, ⟨rfl, rfl⟩, sub_front ⟨_, rfl⟩⟩

theorem Join_c {V : Mem} (h v : Int) : CallS Try.prog 113 [.int .u64 h, .int .u64 v].toArray V [] (fun r L' => r = .int .u64 (joinF h v) ∧ L' = []) := by
  refine callS Try.func113 rfl rfl (fun w0 => ?_)
  refine s_seq ?_
  refine s_region ?_
  refine o_val rfl rfl rfl (y_assign (v := (.int _ _)) rfl) ?_
  refine o_nil ?_
  refine s_seq ?_
  refine s_region ?_
  refine o_val rfl rfl rfl (y_move (v := (.int _ _)) rfl) ?_
  refine o_val rfl rfl rfl (y_add' rfl rfl) ?_
  refine o_fn 0 (d := 7) rfl Try.call142 (Mix_c _) rfl ?_
  rintro _ _ ⟨rfl, rfl⟩
  refine o_val rfl rfl rfl (y_mul' rfl rfl) ?_
  refine o_val rfl rfl rfl (y_move (v := (.int _ _)) rfl) ?_
  refine o_val rfl rfl rfl (y_add' rfl rfl) ?_
  refine o_fn 0 (d := 11) rfl Try.call142 (Mix_c _) rfl ?_
  rintro _ _ ⟨rfl, rfl⟩
  refine o_val rfl rfl rfl (y_assign (v := (.int _ _)) rfl) ?_
  refine o_nil ?_
  refine s_ret ?_
  exact ⟨_, _, res1 rfl rfl, ⟨rfl, rfl⟩, sub_front ⟨_, rfl⟩⟩

theorem SumBytes_c {V : Mem} (A : Option Addr) (n c : Nat) (bs : List Int) (h : BB V A n c bs) (hb : n ≤ 140737488355328) : CallS Try.prog 75 [.slice A n c].toArray V [] (fun r L' => r = .int .u64 (sumB bs) ∧ L' = []) := by
  refine callS Try.func75 rfl rfl (fun w0 => ?_)
  refine s_seq ?_
  refine s_region ?_
  refine o_val rfl rfl rfl (y_assign (v := (.int _ _)) rfl) ?_
  refine o_nil ?_
  refine s_seq ?_
  refine s_region ?_
  refine o_val rfl rfl rfl (y_move (v := (.slice _ _ _)) rfl) ?_
  refine o_val rfl rfl rfl (y_len Try.runUnderlying29 rfl) ?_
  refine o_val rfl rfl rfl (y_conv Try.runUnderlying3 Try.runUnderlying89 rfl (by simp only [inK]; omega)) ?_
  refine o_fn 0 (d := 10) rfl Try.call113 (Join_c _ _) rfl ?_
  rintro _ _ ⟨rfl, rfl⟩
  refine o_val rfl rfl rfl (y_assign (v := (.int _ _)) rfl) ?_
  refine o_nil ?_
  refine s_seq ?_
  refine s_block ?_
  refine s_loop (γ := SB) (fun u => [(0, .slice u.A u.n u.c), (3, .int .u64 u.d)]) (fun u => []) (fun u => sumB bs = sumGo u.n u.d u.bs ∧ BB V u.A u.n u.c u.bs ∧ u.n ≤ n) (fun u => u.n) (SB.mk (joinF 11170449401992604703 (n : Int)) A n c bs) ?_ ⟨rfl, rfl, trivial⟩ (sub_front ⟨_, rfl⟩) ?_
  · exact ⟨by unfold sumB; rw [h.1], h, Nat.le_refl _⟩
  · intro u _f hI
    obtain ⟨hs, hB, hle⟩ := hI
    have hbl := hB.1
    have hbc := hB.2.1
    refine s_seq ?_
    refine s_seq ?_
    refine s_region ?_
    refine o_val rfl rfl rfl (y_move (v := (.slice _ _ _)) rfl) ?_
    refine o_val rfl rfl rfl (y_len Try.runUnderlying29 rfl) ?_
    refine o_val rfl rfl rfl (y_gtr rfl rfl) ?_
    refine o_nil ?_
    refine s_if rfl (fun h1 => ?_) (fun h2 => ?_)
    · refine s_skip ?_
      refine s_block ?_
      refine s_seq ?_
      refine s_region ?_
      refine o_val rfl rfl rfl (y_assign (v := (.int _ _)) rfl) ?_
      refine o_nil ?_
      refine s_seq ?_
      refine s_seq ?_
      refine s_region ?_
      refine o_val rfl rfl rfl (y_move (v := (.slice _ _ _)) rfl) ?_
      refine o_val rfl rfl rfl (y_move (v := (.slice _ _ _)) rfl) ?_
      refine o_val rfl rfl rfl (y_len Try.runUnderlying29 rfl) ?_
      refine o_val rfl rfl rfl (y_min rfl rfl) ?_
      refine o_val rfl rfl rfl (y_cut_hi Try.runUnderlying29 Try.sizeOf5 rfl rfl (by omega)) ?_
      refine o_val rfl rfl rfl (y_len Try.runUnderlying29 rfl) ?_
      refine o_val rfl rfl rfl (y_move (v := (.int _ _)) rfl) ?_
      refine o_nil ?_
      refine s_block ?_
      refine s_loop (γ := Nat) (fun i => [(0, .slice u.A u.n u.c), (3, .int .u64 u.d), (4, .int .u64 (orW u.bs i)), (18, .slice u.A (min ((u.n : Nat) : Int) 8).toNat u.c), (19, .int .i64 ((min ((u.n : Nat) : Int) 8).toNat : Nat)), (20, .int .i64 i)]) (fun i => []) (fun i => i ≤ (min ((u.n : Nat) : Int) 8).toNat) (fun i => (min ((u.n : Nat) : Int) 8).toNat - i) (0) ?_ ⟨rfl, rfl, rfl, rfl, rfl, rfl, trivial⟩ (sub_front ⟨_, rfl⟩) ?_
      · exact Nat.zero_le _
      · intro i _f hJ
        have hi := hJ
        refine s_seq ?_
        refine s_region ?_
        refine o_val rfl rfl rfl (y_lss rfl rfl) ?_
        refine o_nil ?_
        refine s_seq ?_
        refine s_if rfl (fun h3 => ?_) (fun h4 => ?_)
        · refine s_skip ?_
          refine s_seq ?_
          refine s_block ?_
          refine s_seq ?_
          refine s_region ?_
          refine o_val rfl rfl rfl (y_move (v := (.int _ _)) rfl) ?_
          refine o_val rfl rfl rfl (y_index1 Try.runUnderlying29 Try.sizeOf5 (some_int (i := 0) hB.2.2.1 (by omega)) rfl rfl (by omega)) ?_
          refine o_val rfl rfl rfl (y_load Try.isAgg5 rfl (cel_int hB.2.2.1.here (by omega))) ?_
          refine o_val rfl rfl rfl (y_assign (v := (.int _ _)) rfl) ?_
          refine o_val rfl rfl rfl (y_assign (v := (.int _ _)) rfl) ?_
          refine o_nil ?_
          refine s_region ?_
          refine o_val rfl rfl rfl (y_move (v := (.int _ _)) rfl) ?_
          refine o_val rfl rfl rfl (y_move (v := (.int _ _)) rfl) ?_
          refine o_val rfl rfl rfl (y_conv' Try.runUnderlying5 Try.runUnderlying89 rfl) ?_
          refine o_val rfl rfl rfl (y_move (v := (.int _ _)) rfl) ?_
          refine o_val rfl rfl rfl (y_mul rfl rfl (by simp only [inK]; omega)) ?_
          refine o_val rfl rfl rfl (y_shl rfl rfl (by omega)) ?_
          refine o_val rfl rfl rfl (y_or rfl rfl) ?_
          refine o_val rfl rfl rfl (y_assign (v := (.int _ _)) rfl) ?_
          refine o_nil ?_
          refine s_region ?_
          refine o_val rfl rfl rfl (y_add rfl rfl (by simp only [inK]; omega)) ?_
          refine o_val rfl rfl rfl (y_move (v := (.int _ _)) rfl) ?_
          refine o_nil ?_
          exact ⟨i + 1, (by first | omega | (dsimp only; omega)), (by omega), ⟨rfl, rfl, rfl, rfl, rfl, (congrArg (Value.int .i64) (by omega)), trivial⟩, sub_front ⟨_, rfl⟩⟩
        · refine s_exit ?_
          refine s_drawn 0 (by kernel_rfl) ?_
          refine d_val (i := 0) rfl (by kernel_rfl) (by kernel_rfl) (by kernel_rfl) rfl rfl rfl (y_move (v := (.int _ _)) rfl) ?_
          refine d_val (i := 1) rfl (by kernel_rfl) (by kernel_rfl) (by kernel_rfl) rfl rfl rfl (y_move (v := (.int _ _)) rfl) ?_
          refine d_val (i := 3) rfl (by kernel_rfl) (by kernel_rfl) (by kernel_rfl) rfl rfl rfl (y_move (v := (.slice _ _ _)) rfl) ?_
          refine d_val (i := 4) rfl (by kernel_rfl) (by kernel_rfl) (by kernel_rfl) rfl rfl rfl (y_move (v := (.slice _ _ _)) rfl) ?_
          refine d_val (i := 5) rfl (by kernel_rfl) (by kernel_rfl) (by kernel_rfl) rfl rfl rfl (y_len Try.runUnderlying29 rfl) ?_
          refine d_val (i := 6) rfl (by kernel_rfl) (by kernel_rfl) (by kernel_rfl) rfl rfl rfl (y_min rfl rfl) ?_
          refine d_val (i := 7) rfl (by kernel_rfl) (by kernel_rfl) (by kernel_rfl) rfl rfl rfl (y_cut_lo Try.runUnderlying29 Try.sizeOf5 rfl rfl (by omega)) ?_
          refine d_eff (k := 2) (n := 0) (m := 0) rfl (by kernel_rfl) rfl ?_
          refine o_fn 0 (d := 35) rfl Try.call113 (Join_c _ _) rfl ?_
          rintro _ _ ⟨rfl, rfl⟩
          refine o_nil ?_
          refine d_val (i := 8) rfl (by kernel_rfl) (by kernel_rfl) (by kernel_rfl) rfl rfl rfl (y_assign (v := (.int _ _)) rfl) ?_
          refine d_val (i := 9) rfl (by kernel_rfl) (by kernel_rfl) (by kernel_rfl) rfl rfl rfl (y_assign (v := (.slice _ _ _)) rfl) ?_
          refine d_nil (n := 0) (m := 0) (by kernel_rfl) rfl ?_
          have hik : i = (min ((u.n : Nat) : Int) 8).toNat := by omega
          subst hik
          exact ⟨SB.mk (joinF u.d (orW u.bs (min ((u.n : Nat) : Int) 8).toNat)) (cutA u.A u.c (min ((u.n : Nat) : Int) 8).toNat 1) (u.n - (min ((u.n : Nat) : Int) 8).toNat) (u.c - (min ((u.n : Nat) : Int) 8).toNat) (u.bs.drop (min ((u.n : Nat) : Int) 8).toNat), (by first | omega | (dsimp only; omega)), ⟨by rw [hs]; exact sumGo_step hbl (by omega), hB.from (by omega), by dsimp only; omega⟩, ⟨rfl, rfl, trivial⟩, sub_front ⟨_, rfl⟩⟩
    · refine s_exit ?_
      refine s_seq ?_
      refine s_region ?_
      refine o_val rfl rfl rfl (y_move (v := (.int _ _)) rfl) ?_
      refine o_val rfl rfl rfl (y_assign (v := (.int _ _)) rfl) ?_
      refine o_nil ?_
      refine s_ret ?_
      have h0 : u.n = 0 := by omega
      exact ⟨_, _, res1 rfl rfl, ⟨congrArg (Value.int .u64) (by rw [hs, h0]; rfl), rfl⟩, sub_front ⟨_, rfl⟩⟩

end Go.Proofs.Ytdgmocibjjkghaa.K
