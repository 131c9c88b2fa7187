/- Walks: numbers as bytes. No condition beyond what each statement names. -/
import Derived.Test.YtdgmocibjjkghaaProg
import Derived.Test.YtdgmocibjjkghaaK14
import Derived.Test.YtdgmocibjjkghaaB9
import Derived.Test.YtdgmocibjjkghaaN1
import Derived.Test.YtdgmocibjjkghaaN3
import Derived.Test.YtdgmocibjjkghaaN4
import Derived.Test.YtdgmocibjjkghaaL1
import Derived.Test.YtdgmocibjjkghaaL2
set_option linter.unusedVariables false
set_option linter.unusedSimpArgs false
set_option maxRecDepth 100000
namespace Go.Proofs.Ytdgmocibjjkghaa.K
open Go.RowKit

/-- A number as bytes, the highest first. -/
def be : Nat → Nat → List Int
  | 0, _ => []
  | j + 1, n => ((n / 256 ^ j % 256 : Nat) : Int) :: be j n
theorem be_len : ∀ (j n : Nat), (be j n).length = j
  | 0, _ => rfl
  | j + 1, n => by rw [be, List.length_cons, be_len j n]
theorem be_byte : ∀ (j n : Nat), ∀ b ∈ be j n, 0 ≤ b ∧ b ≤ 255
  | 0, _, b, h => by simp [be] at h
  | j + 1, n, b, h => by
    rw [be, List.mem_cons] at h
    rcases h with rfl | h
    · omega
    · exact be_byte j n b h
theorem be_set {k j n : Nat} (h : j < k) : (List.replicate (k - j) (0 : Int) ++ be j n).set (((k : Nat) : Int) - 1 - ((j : Nat) : Int)).toNat ((n / 256 ^ j % 256 : Nat) : Int) = List.replicate (k - (j + 1)) (0 : Int) ++ be (j + 1) n := by
  have e : k - j = (k - (j + 1)) + 1 := by omega
  rw [show (((k : Nat) : Int) - 1 - ((j : Nat) : Int)).toNat = k - (j + 1) by omega, e, List.replicate_succ', List.append_assoc, List.set_append_right _ _ (by simp), List.length_replicate, Nat.sub_self]
  rfl
theorem wrap_u8 (x : Nat) : IntKind.u8.wrap (x : Int) = ((x % 256 : Nat) : Int) := by
  have : IntKind.u8.wrap (x : Int) = (x : Int) % 256 := by simp [IntKind.wrap, IntKind.bits, IntKind.signed]
  rw [this]; omega
theorem div_step (n j : Nat) : ((n / 256 ^ j : Nat) : Int).tdiv 256 = ((n / 256 ^ (j + 1) : Nat) : Int) := by
  rw [Nat.pow_succ, ← Nat.div_div_eq_div_mul, Int.tdiv_eq_ediv_of_nonneg (Int.natCast_nonneg _)]; rfl
theorem rem_step (n j : Nat) : ((n / 256 ^ j : Nat) : Int).tmod 256 = ((n / 256 ^ j % 256 : Nat) : Int) := by
  rw [Int.tmod_eq_emod_of_nonneg (Int.natCast_nonneg _)]; rfl
/-- A number of bytes, the highest first. -/
def val (bs : List Int) : Int := bs.foldl (fun a c => 256 * a + c) 0
theorem val_snoc {bs : List Int} {k : Nat} (h : k < bs.length) : val (bs.take (k + 1)) = 256 * val (bs.take k) + bs.getD ((k : Nat) : Int).toNat 0 := by
  unfold val
  rw [take_snocI h, List.foldl_append]; rfl
theorem val_app (l : List Int) (x : Int) : val (l ++ [x]) = 256 * val l + x := by
  unfold val; rw [List.foldl_append]; rfl
theorem val_bd : ∀ (n : Nat) (bs : List Int), bs.length = n → (∀ b ∈ bs, 0 ≤ b ∧ b ≤ 255) → 0 ≤ val bs ∧ val bs < ((256 ^ n : Nat) : Int)
  | 0, bs, h, _ => by
    have : bs = [] := List.eq_nil_of_length_eq_zero h
    subst this
    simp [val]
  | n + 1, bs, h, hb => by
    have e := List.dropLast_concat_getLast (l := bs) (by intro h0; rw [h0] at h; simp at h)
    rw [← e, val_app]
    have h1 := val_bd n bs.dropLast (by simp; omega) (fun b hh => hb b ((List.dropLast_sublist _).subset hh))
    have h2 := hb _ (List.getLast_mem (l := bs) (by intro h0; rw [h0] at h; simp at h))
    rw [Nat.pow_succ]
    push_cast at h1 ⊢
    omega
theorem bOr_i64 {a b : Int} (ha : 0 ≤ a ∧ a < 9223372036854775808) (hb : 0 ≤ b ∧ b < 9223372036854775808) : bOr .i64 a b = ((a.toNat ||| b.toNat : Nat) : Int) := by
  have h1 : (BitVec.ofInt IntKind.i64.bits a ||| BitVec.ofInt IntKind.i64.bits b).toNat = a.toNat ||| b.toNat := by
    show (BitVec.ofInt 64 a ||| BitVec.ofInt 64 b).toNat = _
    rw [BitVec.toNat_or, BitVec.toNat_ofInt, BitVec.toNat_ofInt]
    have e1 : (a % (2 ^ 64 : Nat)).toNat = a.toNat := by omega
    have e2 : (b % (2 ^ 64 : Nat)).toNat = b.toNat := by omega
    rw [e1, e2]
  unfold bOr
  rw [h1]
  have hlt : a.toNat ||| b.toNat < 2 ^ 63 := Nat.or_lt_two_pow (by omega) (by omega)
  exact wrap_in (by simp only [inK]; omega)
/-- High and low bits joined. -/
theorem or_add {k : Nat} {a b : Int} (hk : k ≤ 62) (ha : 0 ≤ a ∧ a * 2 ^ k < 4611686018427387904) (hb : 0 ≤ b ∧ b < 2 ^ k) : bOr .i64 (a * 2 ^ k) b = a * 2 ^ k + b := by
  obtain ⟨x, rfl⟩ : ∃ x : Nat, a = x := ⟨a.toNat, by omega⟩
  obtain ⟨y, rfl⟩ : ∃ y : Nat, b = y := ⟨b.toNat, by omega⟩
  have e : ((x : Int) * 2 ^ k) = ((x * 2 ^ k : Nat) : Int) := by push_cast; rfl
  have hp : (2 : Int) ^ k = ((2 ^ k : Nat) : Int) := by push_cast; rfl
  have hk2 : 2 ^ k ≤ 2 ^ 62 := Nat.pow_le_pow_right (by omega) hk
  rw [e] at ha ⊢
  rw [hp] at hb
  rw [bOr_i64 (by omega) (by omega), Int.toNat_natCast, Int.toNat_natCast, ← Nat.shiftLeft_eq, ← Nat.shiftLeft_add_eq_or_of_lt (by omega), Nat.shiftLeft_eq]
  push_cast; rfl

structure GB where
  j : Nat
  E : Grp

theorem Big_c {V : Mem} (n k : Nat) (hn : n < 18446744073709551616) (hk : k ≤ 8) : CallS Try.prog 77 [.int .u64 n, .int .i64 k].toArray V [] (fun r L' => ∃ (B : Option Addr) (e : Nat) (E : Grp), r = .slice B k e ∧ OS B k e 5 1 ((be k n).map (.int .u8)) E ∧ L' = [E]) := by
  refine callS Try.func77 rfl rfl (fun w0 => ?_)
  refine s_seq ?_
  refine s_region ?_
  refine o_val rfl rfl rfl (y_assign (v := (.slice _ _ _)) rfl) ?_
  refine o_nil ?_
  refine s_seq ?_
  refine s_region ?_
  refine o_val rfl rfl rfl (y_move (v := (.int _ _)) rfl) ?_
  refine o_make (sz := 1) (bytes := 1) (n := k) rfl Try.underlying29 Try.type5 rfl rfl rfl rfl rfl (by omega) (fun A1 E2 ho3 hs4 => ?_)
  have ho5 : OS A1 k k 5 1 ((List.replicate k (0 : Int)).map (.int .u8)) E2 := os_made_int ho3
  clear ho3
  refine o_val rfl rfl rfl (y_assign (v := (.slice _ _ _)) rfl) ?_
  refine o_nil ?_
  refine s_seq ?_
  refine s_seq ?_
  refine s_region ?_
  refine o_val rfl rfl rfl (y_move (v := (.int _ _)) rfl) ?_
  refine o_val rfl rfl rfl (y_sub rfl rfl (by simp only [inK]; omega)) ?_
  refine o_val rfl rfl rfl (y_assign (v := (.int _ _)) rfl) ?_
  refine o_nil ?_
  refine s_block ?_
  refine s_loop (γ := GB) (fun g => [(0, .int .u64 ((n / 256 ^ g.j : Nat) : Int)), (1, .int .i64 k), (5, .slice A1 k k), (6, .int .i64 ((k : Int) - 1 - (g.j : Int)))]) (fun g => [g.E]) (fun g => g.j ≤ k ∧ OS A1 k k 5 1 ((List.replicate (k - g.j) (0 : Int) ++ be g.j n).map (.int .u8)) g.E) (fun g => k - g.j) (GB.mk 0 E2) ?_ ⟨(congrArg (fun x : Nat => Value.int .u64 x) (show n = n / 256 ^ 0 by rw [Nat.pow_zero, Nat.div_one])), rfl, rfl, (congrArg (Value.int .i64) (by simp)), trivial⟩ (sub_front ⟨_, rfl⟩) ?_
  · exact ⟨Nat.zero_le _, by simpa [be] using ho5⟩
  · intro g _f hI
    obtain ⟨hg, ho⟩ := hI
    have hq0 : (0 : Int) ≤ ((n / 256 ^ g.j : Nat) : Int) := Int.natCast_nonneg _
    have hq1 : ((n / 256 ^ g.j : Nat) : Int) ≤ n := Int.ofNat_le.2 (Nat.div_le_self _ _)
    refine s_seq ?_
    refine s_seq ?_
    refine s_region ?_
    refine o_val rfl rfl rfl (y_move (v := (.int _ _)) rfl) ?_
    refine o_val rfl rfl rfl (y_geq rfl rfl) ?_
    refine o_nil ?_
    refine s_if rfl (fun h6 => ?_) (fun h7 => ?_)
    · refine s_skip ?_
      refine s_seq ?_
      refine s_block ?_
      refine s_seq ?_
      refine s_region ?_
      refine o_val rfl rfl rfl (y_move (v := (.slice _ _ _)) rfl) ?_
      refine o_val rfl rfl rfl (y_move (v := (.int _ _)) rfl) ?_
      refine o_val rfl rfl rfl (y_move (v := (.int _ _)) rfl) ?_
      refine o_val rfl rfl rfl ((y_rem rfl rfl (by omega)).int (rem_step n g.j)) ?_
      refine o_val rfl rfl rfl (y_conv' Try.runUnderlying89 Try.runUnderlying5 rfl) ?_
      refine o_val rfl rfl rfl (y_index1 Try.runUnderlying29 Try.sizeOf5 (ho.some_of (by omega)) rfl rfl (by omega)) ?_
      refine o_store_os (vs := [(.int _ _)]) 0 rfl ho Try.sizeOf5 rfl rfl rfl (by simp [Value.oneCell']) (by simp) (by simp [be_len]; omega) (fun E8 ho9 => ?_)
      have ho10 := os_lay_int ho9 (by simp [be_len]; omega)
      clear ho9
      refine o_nil ?_
      refine s_region ?_
      refine o_val rfl rfl rfl (y_move (v := (.int _ _)) rfl) ?_
      refine o_val rfl rfl rfl ((y_quo rfl rfl (by simp only [inK]; omega)).int (div_step n g.j)) ?_
      refine o_val rfl rfl rfl (y_assign (v := (.int _ _)) rfl) ?_
      refine o_nil ?_
      refine s_region ?_
      refine o_val rfl rfl rfl (y_move (v := (.int _ _)) rfl) ?_
      refine o_val rfl rfl rfl (y_sub rfl rfl (by simp only [inK]; omega)) ?_
      refine o_val rfl rfl rfl (y_assign (v := (.int _ _)) rfl) ?_
      refine o_nil ?_
      exact ⟨GB.mk (g.j + 1) E8, (by first | omega | (dsimp only; omega)), ⟨by dsimp only; omega, by have hs := ho10; rw [wrap_u8, Nat.mod_mod, be_set (by omega)] at hs; exact hs⟩, ⟨rfl, rfl, rfl, (congrArg (Value.int .i64) (by dsimp only; omega)), trivial⟩, sub_front ⟨_, rfl⟩⟩
    · refine s_exit ?_
      refine s_seq ?_
      refine s_region ?_
      refine o_val rfl rfl rfl (y_move (v := (.slice _ _ _)) rfl) ?_
      refine o_val rfl rfl rfl (y_assign (v := (.slice _ _ _)) rfl) ?_
      refine o_nil ?_
      refine s_ret ?_
      have hgk : g.j = k := by omega
      rw [hgk, Nat.sub_self, List.replicate_zero, List.nil_append] at ho
      exact ⟨_, _, res1 rfl rfl, ⟨_, _, _, rfl, ho, rfl⟩, sub_front ⟨_, rfl⟩⟩

theorem Whole_c {V : Mem} (A : Option Addr) (n c : Nat) (bs : List Int) (h : BB V A n c bs) (hn : n ≤ 4) : CallS Try.prog 79 [.slice A n c].toArray V [] (fun r L' => r = .int .i64 (val bs) ∧ L' = []) := by
  have hbl := h.1
  refine callS Try.func79 rfl rfl (fun w0 => ?_)
  refine s_seq ?_
  refine s_region ?_
  refine o_val rfl rfl rfl (y_assign (v := (.int _ _)) rfl) ?_
  refine o_nil ?_
  refine s_seq ?_
  refine s_region ?_
  refine o_val rfl rfl rfl (y_assign (v := (.int _ _)) rfl) ?_
  refine o_nil ?_
  refine s_seq ?_
  refine s_seq ?_
  refine s_region ?_
  refine o_val rfl rfl rfl (y_move (v := (.slice _ _ _)) rfl) ?_
  refine o_val rfl rfl rfl (y_len Try.runUnderlying29 rfl) ?_
  refine o_val rfl rfl rfl (y_move (v := (.int _ _)) rfl) ?_
  refine o_nil ?_
  refine s_block ?_
  refine s_loop (γ := Nat) (fun g => [(3, .int .i64 (val (bs.take g))), (6, .slice A n c), (7, .int .i64 n), (8, .int .i64 g)]) (fun g => []) (fun g => g ≤ n) (fun g => n - g) (0) ?_ ⟨rfl, rfl, rfl, rfl, trivial⟩ (sub_front ⟨_, rfl⟩) ?_
  · exact Nat.zero_le _
  · intro g _f hI
    have hg := hI
    refine s_seq ?_
    refine s_region ?_
    refine o_val rfl rfl rfl (y_lss rfl rfl) ?_
    refine o_nil ?_
    refine s_seq ?_
    refine s_if rfl (fun h1 => ?_) (fun h2 => ?_)
    · refine s_skip ?_
      refine s_seq ?_
      refine s_block ?_
      refine s_seq ?_
      refine s_region ?_
      have hvs := val_snoc (bs := bs) (k := g) (by omega)
      have hvb := val_bd g (bs.take g) (by rw [List.length_take]; omega) (fun b hb => h.2.2.2 b (List.mem_of_mem_take hb))
      have hvp : 256 ^ g ≤ 256 ^ 3 := Nat.pow_le_pow_right (by omega) (by omega)
      have hby := h.2.2.2 _ (getD_in2 (l := bs) (j := ((g : Nat) : Int).toNat) (by omega))
      refine o_val rfl rfl rfl (y_index1 Try.runUnderlying29 Try.sizeOf5 (some_int (i := 0) h.2.2.1 (by omega)) rfl rfl (by omega)) ?_
      refine o_val rfl rfl rfl (y_load Try.isAgg5 rfl (cel_int h.2.2.1.here (by omega))) ?_
      refine o_val rfl rfl rfl (y_assign (v := (.int _ _)) rfl) ?_
      refine o_nil ?_
      refine s_region ?_
      refine o_val rfl rfl rfl (y_move (v := (.int _ _)) rfl) ?_
      refine o_val rfl rfl rfl (y_mul rfl rfl (by simp only [inK]; omega)) ?_
      refine o_val rfl rfl rfl (y_move (v := (.int _ _)) rfl) ?_
      refine o_val rfl rfl rfl (y_conv Try.runUnderlying5 Try.runUnderlying3 rfl (by simp only [inK]; omega)) ?_
      refine o_val rfl rfl rfl (y_add rfl rfl (by simp only [inK]; omega)) ?_
      refine o_val rfl rfl rfl (y_assign (v := (.int _ _)) rfl) ?_
      refine o_nil ?_
      refine s_region ?_
      refine o_val rfl rfl rfl (y_add rfl rfl (by simp only [inK]; omega)) ?_
      refine o_val rfl rfl rfl (y_move (v := (.int _ _)) rfl) ?_
      refine o_nil ?_
      exact ⟨g + 1, (by first | omega | (dsimp only; omega)), (by omega), ⟨(congrArg (Value.int .i64) hvs.symm), rfl, rfl, (congrArg (Value.int .i64) (by omega)), trivial⟩, sub_front ⟨_, rfl⟩⟩
    · refine s_exit ?_
      refine s_seq ?_
      refine s_region ?_
      refine o_val rfl rfl rfl (y_move (v := (.int _ _)) rfl) ?_
      refine o_val rfl rfl rfl (y_assign (v := (.int _ _)) rfl) ?_
      refine o_nil ?_
      refine s_ret ?_
      exact ⟨_, _, res1 rfl rfl, ⟨congrArg (Value.int .i64) (by rw [List.take_of_length_le (by omega)]), rfl⟩, sub_front ⟨_, rfl⟩⟩

theorem val4 {bs : List Int} (h : 4 ≤ bs.length) : val (bs.take 4) = 256 * (256 * (256 * bs.getD 0 0 + bs.getD 1 0) + bs.getD 2 0) + bs.getD 3 0 := by
  match bs, h with
  | a :: b :: c :: d :: r, _ => simp [val]
theorem val2 {bs : List Int} (h : 2 ≤ bs.length) : val (bs.take 2) = 256 * bs.getD 0 0 + bs.getD 1 0 := by
  match bs, h with
  | a :: b :: r, _ => simp [val]
theorem wrapi {x : Int} (h : 0 ≤ x ∧ x < 9223372036854775808) : IntKind.i64.wrap x = x := wrap_in (by simp only [inK]; omega)
theorem or2 {a b : Int} (ha : 0 ≤ a ∧ a ≤ 255) (hb : 0 ≤ b ∧ b ≤ 255) : bOr .i64 (IntKind.i64.wrap (a * 2 ^ (min ((8 : Int)).toNat IntKind.i64.bits))) b = 256 * a + b := by
  have e : (2 : Int) ^ (min ((8 : Int)).toNat IntKind.i64.bits) = 2 ^ 8 := rfl
  rw [e, wrapi (by omega), or_add (by omega) (by omega) (by omega)]; omega
theorem or4 {a b c d : Int} (ha : 0 ≤ a ∧ a ≤ 255) (hb : 0 ≤ b ∧ b ≤ 255) (hc : 0 ≤ c ∧ c ≤ 255) (hd : 0 ≤ d ∧ d ≤ 255) :
    bOr .i64 (bOr .i64 (bOr .i64 (IntKind.i64.wrap (a * 2 ^ (min ((24 : Int)).toNat IntKind.i64.bits))) (IntKind.i64.wrap (b * 2 ^ (min ((16 : Int)).toNat IntKind.i64.bits)))) (IntKind.i64.wrap (c * 2 ^ (min ((8 : Int)).toNat IntKind.i64.bits)))) d = 256 * (256 * (256 * a + b) + c) + d := by
  have e1 : (2 : Int) ^ (min ((24 : Int)).toNat IntKind.i64.bits) = 2 ^ 24 := rfl
  have e2 : (2 : Int) ^ (min ((16 : Int)).toNat IntKind.i64.bits) = 2 ^ 16 := rfl
  have e3 : (2 : Int) ^ (min ((8 : Int)).toNat IntKind.i64.bits) = 2 ^ 8 := rfl
  rw [e1, e2, e3, wrapi (by omega), wrapi (by omega), wrapi (by omega), or_add (by omega) (by omega) (by omega)]
  rw [show a * 2 ^ 24 + b * 2 ^ 16 = (a * 256 + b) * 2 ^ 16 by omega, or_add (by omega) (by omega) (by omega)]
  rw [show (a * 256 + b) * 2 ^ 16 + c * 2 ^ 8 = ((a * 256 + b) * 256 + c) * 2 ^ 8 by omega, or_add (by omega) (by omega) (by omega)]
  omega

theorem ValueL_c {V : Mem} (A : Option Addr) (n c : Nat) (bs : List Int) (h : BB V A n c bs) (hn : 4 ≤ n) : CallS Try.prog 115 [.slice A n c].toArray V [] (fun r L' => r = .int .i64 (val (bs.take 4)) ∧ L' = []) := by
  have hbl := h.1
  have hy0 := h.2.2.2 _ (getD_in2 (l := bs) (j := ((0 : Int)).toNat) (by omega))
  have hy1 := h.2.2.2 _ (getD_in2 (l := bs) (j := ((1 : Int)).toNat) (by omega))
  have hy2 := h.2.2.2 _ (getD_in2 (l := bs) (j := ((2 : Int)).toNat) (by omega))
  have hy3 := h.2.2.2 _ (getD_in2 (l := bs) (j := ((3 : Int)).toNat) (by omega))
  refine callS Try.func115 rfl rfl (fun w0 => ?_)
  refine s_seq ?_
  refine s_region ?_
  refine o_val rfl rfl rfl (y_assign (v := (.int _ _)) rfl) ?_
  refine o_nil ?_
  refine s_seq ?_
  refine s_quiet (by kernel_rfl) (by kernel_rfl) ?_
  refine q_val rfl rfl rfl (y_move (v := (.slice _ _ _)) rfl) ?_
  refine q_val rfl rfl rfl (y_index1 Try.runUnderlying29 Try.sizeOf5 (some_int (i := 0) h.2.2.1 (by omega)) rfl rfl (by omega)) ?_
  refine q_val rfl rfl rfl (y_load Try.isAgg5 rfl (cel_int h.2.2.1.here (by omega))) ?_
  refine q_val rfl rfl rfl (y_conv Try.runUnderlying5 Try.runUnderlying3 rfl (by simp only [inK]; omega)) ?_
  refine q_val rfl rfl rfl (y_shl rfl rfl (by omega)) ?_
  refine q_val rfl rfl rfl (y_move (v := (.slice _ _ _)) rfl) ?_
  refine q_val rfl rfl rfl (y_index1 Try.runUnderlying29 Try.sizeOf5 (some_int (i := 0) h.2.2.1 (by omega)) rfl rfl (by omega)) ?_
  refine q_val rfl rfl rfl (y_load Try.isAgg5 rfl (cel_int h.2.2.1.here (by omega))) ?_
  refine q_val rfl rfl rfl (y_conv Try.runUnderlying5 Try.runUnderlying3 rfl (by simp only [inK]; omega)) ?_
  refine q_val rfl rfl rfl (y_shl rfl rfl (by omega)) ?_
  refine q_val rfl rfl rfl (y_or rfl rfl) ?_
  refine q_val rfl rfl rfl (y_move (v := (.slice _ _ _)) rfl) ?_
  refine q_val rfl rfl rfl (y_index1 Try.runUnderlying29 Try.sizeOf5 (some_int (i := 0) h.2.2.1 (by omega)) rfl rfl (by omega)) ?_
  refine q_val rfl rfl rfl (y_load Try.isAgg5 rfl (cel_int h.2.2.1.here (by omega))) ?_
  refine q_val rfl rfl rfl (y_conv Try.runUnderlying5 Try.runUnderlying3 rfl (by simp only [inK]; omega)) ?_
  refine q_val rfl rfl rfl (y_shl rfl rfl (by omega)) ?_
  refine q_val rfl rfl rfl (y_or rfl rfl) ?_
  refine q_val rfl rfl rfl (y_move (v := (.slice _ _ _)) rfl) ?_
  refine q_val rfl rfl rfl (y_index1 Try.runUnderlying29 Try.sizeOf5 (some_int (i := 0) h.2.2.1 (by omega)) rfl rfl (by omega)) ?_
  refine q_val rfl rfl rfl (y_load Try.isAgg5 rfl (cel_int h.2.2.1.here (by omega))) ?_
  refine q_val rfl rfl rfl (y_conv Try.runUnderlying5 Try.runUnderlying3 rfl (by simp only [inK]; omega)) ?_
  refine q_val rfl rfl rfl (y_or rfl rfl) ?_
  refine q_val rfl rfl rfl (y_assign (v := (.int _ _)) rfl) ?_
  refine q_nil ?_
  refine s_forget [(2, (.int _ _))] ⟨rfl, trivial⟩ (fun _f => ?_)
  refine s_ret ?_
  exact ⟨_, _, res1 rfl rfl, ⟨congrArg (Value.int .i64) (by rw [val4 (by omega)]; exact or4 hy0 hy1 hy2 hy3), rfl⟩, sub_front ⟨_, rfl⟩⟩

theorem shr_nat (v k : Nat) (hk : k ≤ 64) : ((v : Int)).fdiv (2 ^ (min ((k : Int)).toNat 64)) = ((v / 2 ^ k : Nat) : Int) := by
  rw [Int.toNat_natCast, Nat.min_eq_left hk, Int.fdiv_eq_ediv_of_nonneg _ (by exact Int.le_of_lt (Int.pow_pos (by omega)))]
  push_cast; rfl
theorem be4 (v : Nat) : [IntKind.u8.wrap (((v : Int)).fdiv (2 ^ (min ((24 : Int)).toNat IntKind.i64.bits))), IntKind.u8.wrap (((v : Int)).fdiv (2 ^ (min ((16 : Int)).toNat IntKind.i64.bits))), IntKind.u8.wrap (((v : Int)).fdiv (2 ^ (min ((8 : Int)).toNat IntKind.i64.bits))), IntKind.u8.wrap (v : Int)] = be 4 v := by
  have e1 := shr_nat v 24 (by omega)
  have e2 := shr_nat v 16 (by omega)
  have e3 := shr_nat v 8 (by omega)
  simp only [be]
  refine List.cons_eq_cons.2 ⟨?_, List.cons_eq_cons.2 ⟨?_, List.cons_eq_cons.2 ⟨?_, List.cons_eq_cons.2 ⟨?_, rfl⟩⟩⟩⟩
  · rw [show ((v : Int)).fdiv (2 ^ (min ((24 : Int)).toNat IntKind.i64.bits)) = _ from e1, wrap_u8]
  · rw [show ((v : Int)).fdiv (2 ^ (min ((16 : Int)).toNat IntKind.i64.bits)) = _ from e2, wrap_u8]
  · rw [show ((v : Int)).fdiv (2 ^ (min ((8 : Int)).toNat IntKind.i64.bits)) = _ from e3, wrap_u8]
  · rw [wrap_u8, Nat.pow_zero, Nat.div_one]
theorem be2 (v : Nat) : [IntKind.u8.wrap (((v : Int)).fdiv (2 ^ (min ((8 : Int)).toNat IntKind.i64.bits))), IntKind.u8.wrap (v : Int)] = be 2 v := by
  have e3 := shr_nat v 8 (by omega)
  simp only [be]
  refine List.cons_eq_cons.2 ⟨?_, List.cons_eq_cons.2 ⟨?_, rfl⟩⟩
  · rw [show ((v : Int)).fdiv (2 ^ (min ((8 : Int)).toNat IntKind.i64.bits)) = _ from e3, wrap_u8]
  · rw [wrap_u8, Nat.pow_zero, Nat.div_one]

theorem NumberL_k0 (v0 : Int) (v1 : Int) (v2 : Int) (v3 : Int) (w : World) : (Instr.buildSlice 29 4 ([(0, (.int .u8 v0)), (1, (.int .u8 v1)), (2, (.int .u8 v2)), (3, (.int .u8 v3))] : List (Nat × Value)).toArray).run Try.prog w = .ok (.slice (some ⟨w.heap.size, 0, none⟩) 4 4) { w with heap := w.heap.push (.cells ([.int .u8 v0, .int .u8 v1, .int .u8 v2, .int .u8 v3] : List Value).toArray 5 (0, 0)) } := by kernel_rfl
theorem NumberL_c {V : Mem} (A : Option Addr) (m c : Nat) (bs : List Int) (E : Grp) (ho : OS A m c 5 1 ((bs).map (.int .u8)) E) (hm : m ≤ 1000000) (v : Nat) (hv : v ≤ 1000000000) : CallS Try.prog 74 [.slice A m c, .int .i64 v].toArray V [E] (fun r L' => ∃ (B : Option Addr) (e : Nat) (G : Grp), r = .slice B (m + 4) e ∧ OS B (m + 4) e 5 1 ((bs ++ be 4 v).map (.int .u8)) G ∧ L' = [G]) := by
  refine callS Try.func74 rfl rfl (fun w0 => ?_)
  refine s_seq ?_
  refine s_region ?_
  refine o_val rfl rfl rfl (y_assign (v := (.slice _ _ _)) rfl) ?_
  refine o_nil ?_
  refine s_seq ?_
  refine s_region ?_
  refine o_val rfl rfl rfl (y_move (v := (.slice _ _ _)) rfl) ?_
  refine o_val rfl rfl rfl (y_move (v := (.int _ _)) rfl) ?_
  refine o_val rfl rfl rfl (y_shr rfl rfl (by omega)) ?_
  refine o_val rfl rfl rfl (y_conv' Try.runUnderlying3 Try.runUnderlying5 rfl) ?_
  refine o_val rfl rfl rfl (y_move (v := (.int _ _)) rfl) ?_
  refine o_val rfl rfl rfl (y_shr rfl rfl (by omega)) ?_
  refine o_val rfl rfl rfl (y_conv' Try.runUnderlying3 Try.runUnderlying5 rfl) ?_
  refine o_val rfl rfl rfl (y_move (v := (.int _ _)) rfl) ?_
  refine o_val rfl rfl rfl (y_shr rfl rfl (by omega)) ?_
  refine o_val rfl rfl rfl (y_conv' Try.runUnderlying3 Try.runUnderlying5 rfl) ?_
  refine o_val rfl rfl rfl (y_move (v := (.int _ _)) rfl) ?_
  refine o_val rfl rfl rfl (y_conv' Try.runUnderlying3 Try.runUnderlying5 rfl) ?_
  refine o_lit (vs := [(0, .int _ _), (1, .int _ _), (2, .int _ _), (3, .int _ _)]) rfl rfl (NumberL_k0 _ _ _ _) (fun b1 => ?_)
  refine o_append (sz := 1) (bytes := 1) (news := [(.int _ _), (.int _ _), (.int _ _), (.int _ _)]) 0 rfl Try.underlying29 Try.type5 rfl rfl rfl rfl rfl ho rfl rfl (Src.slice Try.underlying29 (cels_own 1 rfl rfl) rfl (by simp [Value.oneCell']) (by simp)) (by omega) (fun A2 c3 E4 ho5 hn6 => ?_)
  have ho7 : OS A2 (m + 4) c3 5 1 ((bs ++ be 4 v).map (.int .u8)) E4 := (by have hh := os_app_int (cs := [_, _, _, _]) ho5; rw [be4] at hh; exact hh)
  clear ho5
  refine o_val rfl rfl rfl (y_assign (v := (.slice _ _ _)) rfl) ?_
  refine o_nil ?_
  refine s_norm [_, [(_, .cells [(.int _ _), (.int _ _), (.int _ _), (.int _ _)].toArray 5 (0, 0))]] rfl ?_
  refine s_forget [(4, (.slice _ _ _))] ⟨rfl, trivial⟩ (fun _f => ?_)
  refine s_ret ?_
  exact ⟨_, _, res1 rfl rfl, ⟨_, _, _, rfl, ho7, rfl⟩, sub_front ⟨_, rfl⟩⟩

end Go.Proofs.Ytdgmocibjjkghaa.K
